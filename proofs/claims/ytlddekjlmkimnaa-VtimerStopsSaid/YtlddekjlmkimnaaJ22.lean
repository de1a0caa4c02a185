import Derived.Test.YtlddekjlmkimnaaHfuel
import Derived.Test.YtlddekjlmkimnaaC17
import Derived.Test.YtlddekjlmkimnaaJ9
section
namespace Go.Proofs.Ytlddekjlmkimnaa.C
open Go.RowKit Go.Proofs.YtlddekjlmkimnaaW.PrintWords Go.Proofs.YtlddekjlmkimnaaW.PrintLast Go.Proofs.YtlddekjlmkimnaaW.PrintMore
set_option linter.unusedVariables false
set_option linter.unusedSimpArgs false

def atF (now : Int) (l : List S88) (id : Int) : Int × Bool := if (found l id && okW now l) = true then ((l.getD (bs l id) z88).f1, true) else (0, false)
theorem at_f (now : Int) (l : List S88) (id : Int) (hn : l.length ≤ 1000000) : wheel_At.f now l id = some (atF now l id) := by
  unfold wheel_At.f wheel_find.f atF
  rw [if_pos hn]
  simp only [Option.bind_some]
  show (if (found l id && okW now l) = true then _ else _) = _
  by_cases h : (found l id && okW now l) = true
  · rw [if_pos h, if_pos h]
    have : bs l id < l.length := by
      unfold found at h
      simp only [Bool.and_eq_true, decide_eq_true_eq] at h
      exact h.1.1
    rw [if_pos (by omega), if_pos (by omega)]
    rfl
  · rw [if_neg h, if_neg h]

theorem bs_nil (x : Int) : bs [] x = 0 := by unfold bs; exact bsGo_end _ _ _ _ (by simp)
end Go.Proofs.Ytlddekjlmkimnaa.C
end
section
namespace Go.Proofs.Ytlddekjlmkimnaa.C
open Go.RowKit Go.Sort Go.Proofs.YtlddekjlmkimnaaW.PrintWords Go.Proofs.YtlddekjlmkimnaaW.PrintLast Go.Proofs.YtlddekjlmkimnaaW.PrintMore
set_option linter.unusedVariables false
set_option linter.unusedSimpArgs false

theorem okL_mem (now : Int) : ∀ (l : List S88) (last : Int), okL now last l = true → ∀ t ∈ l, okT now t = true
  | [], _, _, t, h => by cases h
  | x :: r, last, h, t, ht => by
    simp only [okL, Bool.and_eq_true] at h
    rcases List.mem_cons.1 ht with rfl | ht
    · exact h.1
    · exact okL_mem now r _ h.2.2 t ht
theorem okW_mem {now : Int} {l : List S88} (h : okW now l = true) {t : S88} (ht : t ∈ l) : 0 ≤ t.f0 ∧ t.f0 < 32 ∧ now < t.f1 ∧ t.f1 ≤ 1125899906842624 := by
  simp only [okW, Bool.and_eq_true] at h
  have := okL_mem now l _ h.2.2 t ht
  simpa [okT] using this
theorem okW_now {now : Int} {l : List S88} (h : okW now l = true) : 0 ≤ now ∧ now ≤ 1125899906842624 := by
  simp only [okW, Bool.and_eq_true, decide_eq_true_eq] at h
  exact ⟨h.1, h.2.1⟩

theorem okW_all {now : Int} {l : List S88} (h : okW now l = true) : 0 ≤ now ∧ now ≤ 1125899906842624 ∧ ∀ t ∈ l, okT now t = true := by
  unfold okW at h
  simp only [Bool.and_eq_true, decide_eq_true_eq] at h
  exact ⟨h.1, h.2.1, okL_mem now l (-1) h.2.2⟩
theorem okT_at {now : Int} {t : S88} (h : okT now t = true) : 0 ≤ t.f0 ∧ t.f0 < 32 ∧ now < t.f1 ∧ t.f1 ≤ 1125899906842624 := by
  simpa [okT] using h
theorem sortT_len (l : List S88) : (sortT l).length = l.length := List.length_mergeSort l
end Go.Proofs.Ytlddekjlmkimnaa.C
end
section
namespace Go.Proofs.Ytlddekjlmkimnaa.C
open Go.RowKit Go.Sort Go.Proofs.YtlddekjlmkimnaaW.PrintWords Go.Proofs.YtlddekjlmkimnaaW.PrintLast Go.Proofs.YtlddekjlmkimnaaW.PrintMore
set_option linter.unusedVariables false
set_option linter.unusedSimpArgs false

/-! Lists of timers that rise by number: what they hold says what they are. -/
def Rise (l : List S88) : Prop := l.Pairwise (fun a b => a.f0 < b.f0)
theorem rise_eq : ∀ (l m : List S88), Rise l → Rise m → (∀ t, t ∈ l ↔ t ∈ m) → l = m
  | [], [], _, _, _ => rfl
  | [], b :: m, _, _, h => by have := (h b).2 List.mem_cons_self; cases this
  | a :: l, [], _, _, h => by have := (h a).1 List.mem_cons_self; cases this
  | a :: l, b :: m, hl, hm, h => by
    have hl' := List.pairwise_cons.1 hl
    have hm' := List.pairwise_cons.1 hm
    have e : a = b := by
      rcases List.mem_cons.1 ((h a).1 List.mem_cons_self) with h1 | h1
      · exact h1
      · rcases List.mem_cons.1 ((h b).2 List.mem_cons_self) with h2 | h2
        · exact h2.symm
        · have := hl'.1 b h2
          have := hm'.1 a h1
          omega
    subst e
    rw [rise_eq l m hl'.2 hm'.2 (fun t => ?_)]
    have ht := h t
    simp only [List.mem_cons] at ht
    constructor
    · intro h1
      rcases ht.1 (.inr h1) with h2 | h2
      · subst h2; exact absurd (hl'.1 t h1) (by omega)
      · exact h2
    · intro h1
      rcases ht.2 (.inr h1) with h2 | h2
      · subst h2; exact absurd (hm'.1 t h1) (by omega)
      · exact h2
theorem rise_at {l : List S88} (h : Rise l) {i j : Nat} (hi : i < j) (hj : j < l.length) : l[i].f0 < l[j].f0 := List.pairwise_iff_getElem.1 h i j (by omega) hj hi
theorem rise_inj {l : List S88} (h : Rise l) {a b : S88} (ha : a ∈ l) (hb : b ∈ l) (e : a.f0 = b.f0) : a = b := by
  obtain ⟨i, hi, rfl⟩ := List.getElem_of_mem ha
  obtain ⟨j, hj, rfl⟩ := List.getElem_of_mem hb
  rcases Nat.lt_trichotomy i j with h1 | h1 | h1
  · have := rise_at h h1 hj; omega
  · subst h1; rfl
  · have := rise_at h h1 hi; omega

theorem okL_rise (now : Int) : ∀ (l : List S88) (last : Int), okL now last l = true → Rise l ∧ ∀ t ∈ l, last < t.f0
  | [], _, _ => ⟨List.Pairwise.nil, fun _ h => by cases h⟩
  | x :: r, last, h => by
    simp only [okL, Bool.and_eq_true, decide_eq_true_eq] at h
    obtain ⟨h1, h2⟩ := okL_rise now r x.f0 h.2.2
    refine ⟨List.pairwise_cons.2 ⟨h2, h1⟩, fun t ht => ?_⟩
    rcases List.mem_cons.1 ht with rfl | ht
    · exact h.2.1
    · have := h2 t ht; have := h.2.1; omega
theorem okW_rise {now : Int} {l : List S88} (h : okW now l = true) : Rise l := by
  unfold okW at h
  simp only [Bool.and_eq_true] at h
  exact (okL_rise now l _ h.2.2).1
theorem rise_okL (now : Int) : ∀ (l : List S88) (last : Int), Rise l → (∀ t ∈ l, last < t.f0) → (∀ t ∈ l, okT now t = true) → okL now last l = true
  | [], _, _, _, _ => rfl
  | x :: r, last, h, h1, h2 => by
    have h' := List.pairwise_cons.1 h
    simp only [okL, Bool.and_eq_true, decide_eq_true_eq]
    exact ⟨h2 x List.mem_cons_self, h1 x List.mem_cons_self, rise_okL now r x.f0 h'.2 h'.1 (fun t ht => h2 t (List.mem_cons_of_mem _ ht))⟩
theorem okW_of {now : Int} {l : List S88} (h0 : 0 ≤ now) (h1 : now ≤ 1125899906842624) (hr : Rise l) (ht : ∀ t ∈ l, okT now t = true) : okW now l = true := by
  unfold okW
  simp only [Bool.and_eq_true, decide_eq_true_eq]
  refine ⟨h0, h1, rise_okL now l (-1) hr (fun t h => ?_) ht⟩
  have := okT_at (ht t h); omega
theorem rise_len : ∀ (l : List S88) (lo : Int), Rise l → (∀ t ∈ l, lo ≤ t.f0 ∧ t.f0 < 32) → lo ≤ 32 → (l.length : Int) ≤ 32 - lo
  | [], lo, _, _, h => by simp; omega
  | x :: r, lo, h, h1, h2 => by
    have h' := List.pairwise_cons.1 h
    have hx := h1 x List.mem_cons_self
    have := rise_len r (x.f0 + 1) h'.2 (fun t ht => by have := h'.1 t ht; have := h1 t (List.mem_cons_of_mem _ ht); omega) (by omega)
    simp; omega
theorem okW_len {now : Int} {l : List S88} (h : okW now l = true) : l.length ≤ 32 := by
  have := rise_len l 0 (okW_rise h) (fun t ht => by have := okW_mem h ht; omega) (by omega)
  omega

/-- Where the search ends. -/
theorem bsGo_spec {l : List S88} (h : Rise l) (x : Int) (n : Nat) : ∀ i j, j - i = n → i ≤ j → j ≤ l.length → (∀ q (hq : q < l.length), q < i → l[q].f0 < x) → (∀ q (hq : q < l.length), j ≤ q → x ≤ l[q].f0) →
    (∀ q (hq : q < l.length), q < bsGo l x i j → l[q].f0 < x) ∧ (∀ q (hq : q < l.length), bsGo l x i j ≤ q → x ≤ l[q].f0) := by
  induction n using Nat.strongRecOn with
  | ind n ih =>
    intro i j hn hij hj h1 h2
    by_cases hlt : i < j
    · rw [bsGo_at _ _ _ _ hlt]
      have hm : i ≤ (i + j) / 2 ∧ (i + j) / 2 < j := by omega
      have hml : (i + j) / 2 < l.length := by omega
      have hg : l.getD ((i + j) / 2) z88 = l[(i + j) / 2] := by simp [List.getD_eq_getElem?_getD, hml]
      rw [hg]
      split
      · rename_i c
        refine ih (j - ((i + j) / 2 + 1)) (by omega) ((i + j) / 2 + 1) j rfl (by omega) hj (fun q hq hqi => ?_) h2
        rcases Nat.lt_or_ge q ((i + j) / 2) with c1 | c1
        · have := rise_at h c1 hml; omega
        · obtain rfl : q = (i + j) / 2 := by omega
          exact c
      · rename_i c
        refine ih ((i + j) / 2 - i) (by omega) i ((i + j) / 2) rfl (by omega) (by omega) h1 (fun q hq hqi => ?_)
        rcases Nat.lt_or_ge ((i + j) / 2) q with c1 | c1
        · have := rise_at h c1 hq; omega
        · obtain rfl : q = (i + j) / 2 := by omega
          omega
    · rw [bsGo_end _ _ _ _ hlt]
      exact ⟨h1, fun q hq hqi => h2 q hq (by omega)⟩
theorem bs_spec {l : List S88} (h : Rise l) (x : Int) : (∀ q (hq : q < l.length), q < bs l x → l[q].f0 < x) ∧ (∀ q (hq : q < l.length), bs l x ≤ q → x ≤ l[q].f0) :=
  bsGo_spec h x l.length 0 l.length (by omega) (by omega) (Nat.le_refl _) (fun q _ hq => by omega) (fun q hq hq2 => by omega)
theorem found_iff {l : List S88} (h : Rise l) (x : Int) : found l x = true ↔ ∃ t ∈ l, t.f0 = x := by
  unfold found
  simp only [Bool.and_eq_true, decide_eq_true_eq]
  constructor
  · rintro ⟨h1, h2⟩
    rw [show l.getD (bs l x) z88 = l[bs l x] by simp [List.getD_eq_getElem?_getD, h1]] at h2
    exact ⟨_, List.getElem_mem h1, h2⟩
  · rintro ⟨t, ht, rfl⟩
    obtain ⟨i, hi, rfl⟩ := List.getElem_of_mem ht
    obtain ⟨s1, s2⟩ := bs_spec h l[i].f0
    have hle : bs l l[i].f0 ≤ i := by
      rcases Nat.lt_or_ge i (bs l l[i].f0) with c | c
      · have := s1 i hi c; omega
      · exact c
    have hbl : bs l l[i].f0 < l.length := by omega
    refine ⟨hbl, ?_⟩
    rw [show l.getD (bs l l[i].f0) z88 = l[bs l l[i].f0] by simp [List.getD_eq_getElem?_getD, hbl]]
    have h1 := s2 (bs l l[i].f0) hbl (Nat.le_refl _)
    rcases Nat.lt_or_ge (bs l l[i].f0) i with c | c
    · have := rise_at h c hi; omega
    · have e : bs l l[i].f0 = i := by omega
      simp only [e]
theorem found_bs {l : List S88} {x : Int} (h : found l x = true) : ∃ hb : bs l x < l.length, l[bs l x].f0 = x := by
  unfold found at h
  simp only [Bool.and_eq_true, decide_eq_true_eq] at h
  obtain ⟨h1, h2⟩ := h
  rw [show l.getD (bs l x) z88 = l[bs l x] by simp [List.getD_eq_getElem?_getD, h1]] at h2
  exact ⟨h1, h2⟩

/-- The document's At. -/
def atR : List S88 → Int → Int
  | [], _ => 0
  | t :: r, x => if t.f0 = x then t.f1 else atR r x
theorem atR_mem {l : List S88} (h : Rise l) {t : S88} (ht : t ∈ l) : atR l t.f0 = t.f1 := by
  induction l with
  | nil => cases ht
  | cons a r ih =>
    have h' := List.pairwise_cons.1 h
    unfold atR
    rcases List.mem_cons.1 ht with rfl | h1
    · simp
    · have := h'.1 t h1
      rw [if_neg (by omega)]
      exact ih h'.2 h1
theorem atR_pos {l : List S88} {x : Int} (h : atR l x ≠ 0) : ∃ t ∈ l, t.f0 = x ∧ atR l x = t.f1 := by
  induction l with
  | nil => exact absurd rfl h
  | cons a r ih =>
    unfold atR at h ⊢
    by_cases c : a.f0 = x
    · rw [if_pos c]; exact ⟨a, List.mem_cons_self, c, rfl⟩
    · rw [if_neg c] at h ⊢
      obtain ⟨t, ht, h1, h2⟩ := ih h
      exact ⟨t, List.mem_cons_of_mem _ ht, h1, h2⟩
/-- The document's With: one round. -/
def withR1 (l : List S88) (x v : Int) (i : Nat) : List S88 :=
  if (i : Int) = x then (if v > 0 then [⟨i, v⟩] else []) else (if atR l i > 0 then [⟨i, atR l i⟩] else [])
def withR (l : List S88) (x v : Int) : List S88 := (List.range 32).flatMap (withR1 l x v)
theorem withR1_mem {l : List S88} {x v : Int} {i : Nat} {t : S88} : t ∈ withR1 l x v i ↔ t.f0 = i ∧ t.f1 > 0 ∧ (if (i : Int) = x then t.f1 = v else t.f1 = atR l i) := by
  unfold withR1
  cases t with
  | mk a b =>
    by_cases c : (i : Int) = x
    · simp only [if_pos c]
      by_cases c1 : v > 0
      · simp [if_pos c1]; omega
      · simp [if_neg c1]; omega
    · simp only [if_neg c]
      by_cases c1 : atR l i > 0
      · simp [if_pos c1]; omega
      · simp [if_neg c1]; omega
theorem withR_mem {l : List S88} {x v : Int} {t : S88} : t ∈ withR l x v ↔ 0 ≤ t.f0 ∧ t.f0 < 32 ∧ t.f1 > 0 ∧ (if t.f0 = x then t.f1 = v else t.f1 = atR l t.f0) := by
  unfold withR
  rw [List.mem_flatMap]
  constructor
  · rintro ⟨i, hi, h⟩
    obtain ⟨h1, h2, h3⟩ := withR1_mem.1 h
    rw [List.mem_range] at hi
    rw [h1]
    exact ⟨by omega, by omega, h2, h3⟩
  · rintro ⟨h0, h1, h2, h3⟩
    obtain ⟨i, hi⟩ := Int.eq_ofNat_of_zero_le h0
    refine ⟨i, by rw [List.mem_range]; omega, withR1_mem.2 ⟨hi, h2, ?_⟩⟩
    rw [hi] at h3
    exact h3
theorem withR_rise (l : List S88) (x v : Int) : Rise (withR l x v) := by
  unfold Rise withR
  rw [List.pairwise_flatMap]
  constructor
  · intro i _
    unfold withR1
    split <;> split <;> simp
  · refine List.Pairwise.imp ?_ List.pairwise_lt_range
    intro i j hij a ha b hb
    have h1 := (withR1_mem.1 ha).1
    have h2 := (withR1_mem.1 hb).1
    omega

section
variable {now : Int} {l : List S88} (hok : okW now l = true)
include hok
theorem atR_found (x : Int) : (found l x = true → 0 < atR l x) ∧ (¬ found l x = true → atR l x = 0) := by
  have hr := okW_rise hok
  have h0 := (okW_all hok).1
  constructor
  · intro h
    obtain ⟨t, ht, rfl⟩ := (found_iff hr x).1 h
    rw [atR_mem hr ht]
    have := okW_mem hok ht; omega
  · intro h
    by_cases c : atR l x = 0
    · exact c
    · obtain ⟨t, ht, h1, _⟩ := atR_pos c
      exact absurd ((found_iff hr x).2 ⟨t, ht, h1⟩) h
theorem atF_ok (x : Int) : atF now l x = (atR l x, decide (0 < atR l x)) := by
  unfold atF
  have hr := okW_rise hok
  obtain ⟨h1, h2⟩ := atR_found hok x
  by_cases c : found l x = true
  · obtain ⟨hb, e⟩ := found_bs c
    have hm := atR_mem hr (List.getElem_mem hb)
    rw [e] at hm
    have hg : l.getD (bs l x) z88 = l[bs l x] := by simp [List.getD_eq_getElem?_getD, hb]
    rw [hok, c, if_pos (by rfl), hg, ← hm, decide_eq_true (h1 c)]
  · have c' : found l x = false := by simpa using c
    rw [c', hok, if_neg (by simp), h2 c]
    rfl
/-- Cancel is With(.., 0). -/
theorem erase_with (x : Int) (hf : found l x = true) : l.eraseIdx (bs l x) = withR l x 0 := by
  have hr := okW_rise hok
  obtain ⟨hb, e⟩ := found_bs hf
  refine rise_eq _ _ (List.Pairwise.sublist (List.eraseIdx_sublist _ _) hr) (withR_rise _ _ _) (fun t => ?_)
  rw [withR_mem]
  constructor
  · intro h
    have ht := List.mem_of_mem_eraseIdx h
    have h3 := okW_mem hok ht
    have hne : t.f0 ≠ x := by
      intro h4
      rw [List.mem_eraseIdx_iff_getElem] at h
      obtain ⟨i, hi, hne, rfl⟩ := h
      have := rise_inj hr (List.getElem_mem hi) (List.getElem_mem hb) (by rw [h4, e])
      rcases Nat.lt_trichotomy i (bs l x) with c | c | c
      · have := rise_at hr c hb; omega
      · exact hne c
      · have := rise_at hr c hi; omega
    have := (okW_all hok).1
    rw [if_neg hne, atR_mem hr ht]
    exact ⟨h3.1, h3.2.1, by omega, rfl⟩
  · rintro ⟨h0, h1, h2, h3⟩
    by_cases c : t.f0 = x
    · rw [if_pos c] at h3; omega
    · rw [if_neg c] at h3
      obtain ⟨u, hu, h4, h5⟩ := atR_pos (l := l) (x := t.f0) (by omega)
      have e2 : t = u := by cases t; cases u; simp_all
      subst e2
      obtain ⟨i, hi, rfl⟩ := List.getElem_of_mem hu
      rw [List.mem_eraseIdx_iff_getElem]
      exact ⟨i, hi, fun hib => c (by simp only [hib]; exact e), rfl⟩
/-- Set is With. -/
theorem set_with (x v : Int) (hx : 0 ≤ x) (hx2 : x < 32) (hv : 0 < v) : withT l ⟨x, v⟩ = withR l x v := by
  have hr := okW_rise hok
  have h00 := (okW_all hok).1
  unfold withT
  simp only
  by_cases hf : found l x = true
  · rw [if_pos hf]
    obtain ⟨hb, e⟩ := found_bs hf
    refine rise_eq _ _ ?_ (withR_rise _ _ _) (fun t => ?_)
    · unfold Rise
      rw [List.pairwise_iff_getElem]
      intro i j hi hj hij
      rw [List.length_set] at hi hj
      have := rise_at hr hij hj
      rw [List.getElem_set, List.getElem_set]
      split <;> split
      · omega
      · rename_i c1 c2; subst c1; rw [e] at this; exact this
      · rename_i c1 c2; subst c2; rw [e] at this; exact this
      · exact this
    · rw [withR_mem, List.mem_iff_getElem]
      constructor
      · rintro ⟨i, hi, rfl⟩
        rw [List.length_set] at hi
        rw [List.getElem_set]
        by_cases c : bs l x = i
        · rw [if_pos c]; simp only [if_true]; exact ⟨hx, hx2, hv, trivial⟩
        · rw [if_neg c]
          have h3 := okW_mem hok (List.getElem_mem hi)
          have hne : l[i].f0 ≠ x := by
            intro h4
            rcases Nat.lt_trichotomy i (bs l x) with c1 | c1 | c1
            · have := rise_at hr c1 hb; omega
            · exact c c1.symm
            · have := rise_at hr c1 hi; omega
          rw [if_neg hne, atR_mem hr (List.getElem_mem hi)]
          exact ⟨h3.1, h3.2.1, by omega, rfl⟩
      · rintro ⟨h0, h1, h2, h3⟩
        by_cases c : t.f0 = x
        · rw [if_pos c] at h3
          refine ⟨bs l x, by rw [List.length_set]; exact hb, ?_⟩
          rw [List.getElem_set, if_pos rfl]
          cases t; simp_all
        · rw [if_neg c] at h3
          obtain ⟨u, hu, h4, h5⟩ := atR_pos (l := l) (x := t.f0) (by omega)
          have e2 : t = u := by cases t; cases u; simp_all
          subst e2
          obtain ⟨i, hi, rfl⟩ := List.getElem_of_mem hu
          refine ⟨i, by rw [List.length_set]; exact hi, ?_⟩
          rw [List.getElem_set, if_neg (fun hib => c (by simp only [← hib]; exact e))]
  · rw [if_neg hf]
    obtain ⟨s1, s2⟩ := bs_spec hr x
    have hnf : ∀ t ∈ l, t.f0 ≠ x := fun t ht h => hf ((found_iff hr x).2 ⟨t, ht, h⟩)
    refine rise_eq _ _ ?_ (withR_rise _ _ _) (fun t => ?_)
    · unfold Rise
      rw [List.pairwise_append, List.pairwise_cons]
      have hT : ∀ a ∈ l.take (bs l x), a.f0 < x := fun a ha => by
        obtain ⟨i, hi, rfl⟩ := List.getElem_of_mem ha
        rw [List.getElem_take]
        rw [List.length_take] at hi
        exact s1 i (by omega) (by omega)
      have hD : ∀ a ∈ l.drop (bs l x), x < a.f0 := fun a ha => by
        obtain ⟨i, hi, rfl⟩ := List.getElem_of_mem ha
        rw [List.length_drop] at hi
        have := s2 (bs l x + i) (by omega) (by omega)
        have := hnf _ (List.mem_of_mem_drop ha)
        rw [List.getElem_drop] at this ⊢
        omega
      refine ⟨List.Pairwise.sublist (List.take_sublist _ _) hr, ⟨hD, List.Pairwise.sublist (List.drop_sublist _ _) hr⟩, fun a ha b hb => ?_⟩
      rcases List.mem_cons.1 hb with rfl | hb
      · exact hT a ha
      · have := hT a ha; have := hD b hb; omega
    · have hmem : t ∈ l.take (bs l x) ++ ⟨x, v⟩ :: l.drop (bs l x) ↔ t = ⟨x, v⟩ ∨ t ∈ l := by
        conv => rhs; rw [← List.take_append_drop (bs l x) l]
        simp only [List.mem_append, List.mem_cons]
        constructor
        · rintro (h | h | h)
          · exact .inr (.inl h)
          · exact .inl h
          · exact .inr (.inr h)
        · rintro (h | h | h)
          · exact .inr (.inl h)
          · exact .inl h
          · exact .inr (.inr h)
      rw [hmem, withR_mem]
      constructor
      · rintro (rfl | ht)
        · simp only [if_true]; exact ⟨hx, hx2, hv, trivial⟩
        · have h3 := okW_mem hok ht
          rw [if_neg (hnf t ht), atR_mem hr ht]
          exact ⟨h3.1, h3.2.1, by omega, rfl⟩
      · rintro ⟨h0, h1, h2, h3⟩
        by_cases c : t.f0 = x
        · rw [if_pos c] at h3
          left; cases t; simp_all
        · rw [if_neg c] at h3
          obtain ⟨u, hu, h4, h5⟩ := atR_pos (l := l) (x := t.f0) (by omega)
          have e2 : t = u := by cases t; cases u; simp_all
          subst e2
          exact .inr hu
end
end Go.Proofs.Ytlddekjlmkimnaa.C
end
