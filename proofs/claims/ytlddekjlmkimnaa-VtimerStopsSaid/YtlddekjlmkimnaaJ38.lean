import Derived.Test.YtlddekjlmkimnaaJ25
import Derived.Test.YtlddekjlmkimnaaC20
import Derived.Test.YtlddekjlmkimnaaJ6
import Derived.Test.YtlddekjlmkimnaaJ24
import Derived.Test.YtlddekjlmkimnaaJ23
import Derived.Test.YtlddekjlmkimnaaJ29
import Derived.Test.YtlddekjlmkimnaaC18
section
namespace Go.Proofs.Ytlddekjlmkimnaa.C
open Go.RowKit Go.Proofs.YtlddekjlmkimnaaW.PrintWords Go.Proofs.YtlddekjlmkimnaaW.PrintLast Go.Proofs.YtlddekjlmkimnaaW.PrintMore
set_option linter.unusedVariables false
set_option linter.unusedSimpArgs false

theorem okV_iff {now : Int} {ts : List S88} {rs : List S47} (hr : RowsA rs) (hw : okW now ts = true) (v : Int) (h0 : 0 ≤ v) (h1 : v ≤ 100) : okV now ts rs v = (decide (0 < atR ts (v - 1)) == decide (idxF v rs ≥ 0)) := by
  unfold okV
  rw [atF_ok hw, thereA_find hr (by omega) (by omega)]
theorem okAl_of {now : Int} {ts : List S88} {rs : List S47} (hr : RowsA rs) (hw : okW now ts = true) (h : ∀ v : Nat, v < 16 → (decide (0 < atR ts (v : Int)) == decide (idxF ((v : Int) + 1) rs ≥ 0)) = true) : okAl now ts rs = true := by
  unfold okAl
  rw [rows_okR rs 0 hr (fun x hx => by have := okA_vcpu (hr.ok x hx); omega), hw, Bool.true_and, Bool.true_and, List.all_eq_true]
  intro v hv
  have hv := List.mem_range.1 hv
  rw [okV_iff hr hw _ (by omega) (by omega)]
  have := h v hv
  rwa [show (v : Int) + 1 - 1 = v by omega]
theorem rowsA_nil : RowsA [] := ⟨List.Pairwise.nil, fun _ h => by cases h⟩
theorem rowsA_one {x : S47} (h : okA x = true) : RowsA [x] := ⟨List.pairwise_singleton _ _, fun y hy => by simp only [List.mem_singleton] at hy; rw [hy]; exact h⟩

theorem wk_start : startF 0 [] [] ⟨2, 5, 1000⟩ 1500 = (0, [⟨1, 1500⟩], [⟨2, 5, 1000⟩], 0) := by
  have h0 : okAl 0 [] [] = true := okAl_of rowsA_nil (by decide) (by decide)
  have hs : setF 0 ([] : List S88) (2 - 1) 1500 = (0, [⟨1, 1500⟩], 0) := by
    have : withT [] ⟨2 - 1, 1500⟩ = [⟨1, 1500⟩] := by
      unfold withT found
      rw [bs_nil]; rfl
    unfold setF
    rw [this]; rfl
  unfold startF
  rw [h0, if_pos rfl, if_pos (by decide), if_pos (by decide), hs, if_pos rfl]
  have ht : thereA [] (2 : Int) = false := by simp [thereA]
  simp only
  rw [ht]
  simp [putA]
theorem wk_there : thereA [⟨2, 5, 1000⟩] 2 = true := (thereA_iff (rowsA_one (by decide)) 2 (by omega) (by omega)).2 ⟨_, List.mem_singleton.2 rfl, rfl⟩
theorem wk_bs : bsA [⟨2, 5, 1000⟩] 2 = 0 := by
  have := thereA_lt wk_there
  simp at this
  exact this
theorem wk_ok1 : okAl 0 [⟨1, 1500⟩] [⟨2, 5, 1000⟩] = true := okAl_of (rowsA_one (by decide)) (by decide) (by decide)
theorem wk_ok2 : okAl 5000 [⟨1, 5500⟩] [⟨2, 5, 1000⟩] = true := okAl_of (rowsA_one (by decide)) (by decide) (by decide)
theorem wk_pass : passV 0 [⟨1, 1500⟩] [⟨2, 5, 1000⟩] 5000 = some (5000, [⟨1, 5500⟩], [⟨2, 5, 1000⟩], [⟨2, 5, 1500, 3⟩], 0) := by
  have hp : passF 0 [⟨1, 1500⟩] 5000 = (5000, [], [⟨1, 1500⟩], 0) := by
    have : sortT [(⟨1, 1500⟩ : S88)] = [⟨1, 1500⟩] := by unfold sortT; exact List.mergeSort_singleton _
    unfold passF passOk
    have e : ([(⟨1, 1500⟩ : S88)].filter (fun x => decide (x.f1 ≤ 5000))) = [⟨1, 1500⟩] := by simp
    rw [e, this]; rfl
  have hs : setF 5000 ([] : List S88) 1 5500 = (5000, [⟨1, 5500⟩], 0) := by
    have : withT [] ⟨1, 5500⟩ = [⟨1, 5500⟩] := by
      unfold withT found
      rw [bs_nil]; rfl
    unfold setF
    rw [this]; rfl
  have hr : ringF 5000 [] [⟨2, 5, 1000⟩] ⟨1, 1500⟩ = some ([⟨1, 5500⟩], [⟨2, 5, 1000⟩], ⟨2, 5, 1500, 3⟩) := by
    unfold ringF
    have e1 : ((1 : Int) % 16 + 1) = 2 := by decide
    have ha : vtimer_again.f 2 5 1000 1500 5000 = some (3, 5500, true) := by
      unfold vtimer_again.f
      rw [if_neg (by omega)]
      have w1 : wrap64 (5000 - 1500) = 3500 := by rw [wrap64_id] <;> omega
      have w2 : Int.tdiv 3500 1000 = 3 := by rw [Int.tdiv_eq_ediv_of_nonneg (by omega)]; omega
      have w3 : wrap64 3 = 3 := by rw [wrap64_id] <;> omega
      have w4 : wrap64 (3 * 1000) = 3000 := by rw [wrap64_id] <;> omega
      have w5 : wrap64 (1500 + 3000) = 4500 := by rw [wrap64_id] <;> omega
      have w6 : wrap64 (4500 + 1000) = 5500 := by rw [wrap64_id] <;> omega
      have w7 : wrap64 (1125899906842624 - 4500) = 1125899906838124 := by rw [wrap64_id] <;> omega
      rw [w1, w2, w3, w4, w5, w6, w7]
      simp
    rw [if_pos (by decide), if_pos (by decide)]
    simp only [e1, wk_bs]
    rw [if_pos (by decide)]
    show (vtimer_again.f 2 5 1000 1500 5000).bind _ = _
    rw [ha]
    simp only [Option.bind_some, if_true, hs]
    rfl
  unfold passV
  rw [wk_ok1, if_pos rfl, hp, if_pos rfl]
  simp only [ringsGo, hr, Option.bind_some, Option.map_some]
  rfl
theorem wakes18_k (k : Nat) (hk : 40 ≤ k) : mainsheetlaw18_wakes.f k = some true := by
  obtain ⟨k, rfl⟩ : ∃ m, k = m + 1 := ⟨k - 1, by omega⟩
  unfold mainsheetlaw18_wakes.f
  have h1 : vtimer_Start.f 0 ([] : List S88) ([] : List S47) 2 5 1000 1500 = some (0, [⟨1, 1500⟩], [⟨2, 5, 1000⟩], 0) := by
    unfold vtimer_Start.f
    rw [if_pos ⟨by simp, by simp⟩, wk_start]
  have h2 : vtimer_Pass.f 0 [⟨1, 1500⟩] [⟨2, 5, 1000⟩] 5000 = some (5000, [⟨1, 5500⟩], [⟨2, 5, 1000⟩], [⟨2, 5, 1500, 3⟩], 0) := by
    unfold vtimer_Pass.f
    rw [if_pos ⟨by simp, by simp⟩, wk_pass]
  have h3 : vtimer_Get.f (k + 1) 5000 [⟨1, 5500⟩] [⟨2, 5, 1000⟩] 2 = some (2, 5, 1000, 5500, true) := by
    unfold vtimer_Get.f
    rw [atA_f _ _ (by simp), wk_there, wk_bs, chk_k _ _ _ (by simp) (by simp) (k + 1) (by simp; omega), wk_ok2]
    simp only [Option.bind_some, if_true, vtimer_Get.j0]
    rw [if_neg (by simp), alarmed_f 2 (by omega) (by omega)]
    simp only [Option.bind_some]
    rw [at_f _ _ _ (by simp), atF_ok (by decide)]
    rfl
  rw [h1]
  simp only [Option.bind_some]
  rw [h2]
  simp only [Option.bind_some]
  rw [h3]
  rfl
end Go.Proofs.Ytlddekjlmkimnaa.C
end
section
-- Written by a program of this session (wip/tools/stub.py, over the kit's print) and by hand; not the kit's print.
namespace Go.Proofs.Ytlddekjlmkimnaa.C
open Go.RowKit Go.Proofs.YtlddekjlmkimnaaW.PrintWords Go.Proofs.YtlddekjlmkimnaaW.PrintLast Go.Proofs.YtlddekjlmkimnaaW.PrintMore
attribute [local go_sem] max2_int min2_int max_two min_two max_three min_three max_four min_four   -- for this text's walks alone
set_option linter.unusedVariables false
set_option linter.unusedSimpArgs false

/-! ### mainsheetref18_Get: function 19 -/
/-! ### mainsheetref18_Sleeps: function 20 -/
end Go.Proofs.Ytlddekjlmkimnaa.C
end
section
namespace Go.Proofs.Ytlddekjlmkimnaa.C
open Go.RowKit Go.Proofs.YtlddekjlmkimnaaW.PrintWords Go.Proofs.YtlddekjlmkimnaaW.PrintLast Go.Proofs.YtlddekjlmkimnaaW.PrintMore
set_option linter.unusedVariables false
set_option linter.unusedSimpArgs false

theorem short_f (now : Int) (ts : List S88) (rs : List S47) : mainsheetlaw18_short.f now ts rs = some (now, ts.take 33, rs.take 17) := by
  unfold mainsheetlaw18_short.f
  have m1 : mn (ts.length : Int) 33 = ((min ts.length 33 : Nat) : Int) := by unfold mn; split <;> omega
  have m2 : mn (rs.length : Int) 17 = ((min rs.length 17 : Nat) : Int) := by unfold mn; split <;> omega
  have t1 : ts.take (min ts.length 33) = ts.take 33 := by
    rcases Nat.le_total ts.length 33 with h | h
    · rw [Nat.min_eq_left h, List.take_length, List.take_of_length_le h]
    · rw [Nat.min_eq_right h]
  have t2 : rs.take (min rs.length 17) = rs.take 17 := by
    rcases Nat.le_total rs.length 17 with h | h
    · rw [Nat.min_eq_left h, List.take_length, List.take_of_length_le h]
    · rw [Nat.min_eq_right h]
  rw [m1, m2, if_pos (by omega), if_pos (by omega), if_pos (by omega), if_pos (by omega)]
  simp only [Int.toNat_natCast]
  rw [t1, t2]
  unfold mainsheetref18_Copy.f
  have l1 : (ts.take 33).length ≤ 33 := by rw [List.length_take]; omega
  have l2 : (rs.take 17).length ≤ 17 := by rw [List.length_take]; omega
  simp only [Option.bind_some, List.length_nil, Nat.zero_add, List.nil_append]
  rw [if_pos (by omega), if_pos (by omega)]
  rfl

instance : DecidableEq S47 := fun a b => decidable_of_iff (a.f0 = b.f0 ∧ a.f1 = b.f1 ∧ a.f2 = b.f2) (by cases a; cases b; simp)
end Go.Proofs.Ytlddekjlmkimnaa.C
end
section
namespace Go.Proofs.Ytlddekjlmkimnaa.C
open Go.RowKit Go.Sort Go.Proofs.YtlddekjlmkimnaaW.PrintWords Go.Proofs.YtlddekjlmkimnaaW.PrintLast Go.Proofs.YtlddekjlmkimnaaW.PrintMore
set_option linter.unusedVariables false
set_option linter.unusedSimpArgs false

/-! ### Alarms that may be: the rows, the wheel, and that each row's timer stands -/
theorem okAl_iff {now : Int} {ts : List S88} {rs : List S47} : okAl now ts rs = true ↔ RowsA rs ∧ okW now ts = true ∧ ∀ own : Int, 1 ≤ own → own ≤ 16 → (0 < atR ts (own - 1) ↔ ∃ x ∈ rs, x.f0 = own) := by
  constructor
  · intro h
    have hr := okAl_rows h
    have hw := okAl_wheel h
    refine ⟨hr, hw, fun own h1 h2 => ?_⟩
    unfold okAl at h
    simp only [Bool.and_eq_true, List.all_eq_true, List.mem_range] at h
    have h3 := h.2.2 (own - 1).toNat (by omega)
    unfold okV at h3
    rw [show (((own - 1).toNat : Nat) : Int) + 1 = own by omega, atF_ok hw, beq_iff_eq] at h3
    rw [← thereA_iff hr own (by omega) (by omega), ← h3]
    simp
  · rintro ⟨hr, hw, h⟩
    unfold okAl
    simp only [Bool.and_eq_true, List.all_eq_true, List.mem_range]
    refine ⟨rows_okR rs 0 hr (fun x hx => by have := okA_vcpu (hr.ok x hx); omega), hw, fun v hv => ?_⟩
    unfold okV
    have h3 := h ((v : Int) + 1) (by omega) (by omega)
    rw [← thereA_iff hr _ (by omega) (by omega)] at h3
    rw [atF_ok hw, beq_iff_eq]
    simp only
    by_cases c : thereA rs ((v : Int) + 1) = true
    · rw [c, decide_eq_true (h3.2 c)]
    · have c' : thereA rs ((v : Int) + 1) = false := by simpa using c
      rw [c', decide_eq_false (fun hh => c (h3.1 hh))]

/-! ### A wheel with a timer at another time -/
theorem atR_nonneg {now : Int} {ts : List S88} (hok : okW now ts = true) (x : Int) : 0 ≤ atR ts x := by
  by_cases c : found ts x = true
  · have := (atR_found hok x).1 c; omega
  · rw [(atR_found hok x).2 c]; exact Int.le_refl _
theorem atR_withR {now : Int} {ts : List S88} (hok : okW now ts = true) (x v y : Int) (hv : 0 ≤ v) (hy : 0 ≤ y) (hy2 : y < 32) : atR (withR ts x v) y = if y = x then v else atR ts y := by
  have hr := withR_rise ts x v
  have key : ∀ u : Int, 0 < u → (if y = x then u = v else u = atR ts y) → atR (withR ts x v) y = u := fun u hu h => by
    have hm : (⟨y, u⟩ : S88) ∈ withR ts x v := withR_mem.2 ⟨hy, hy2, hu, h⟩
    exact atR_mem hr hm
  have zero : (∀ u : Int, 0 < u → ¬ (if y = x then u = v else u = atR ts y)) → atR (withR ts x v) y = 0 := fun h => by
    by_cases c : atR (withR ts x v) y = 0
    · exact c
    · obtain ⟨t, ht, h1, h2⟩ := atR_pos c
      obtain ⟨_, _, h3, h4⟩ := withR_mem.1 ht
      rw [h1] at h4
      exact absurd h4 (h _ h3)
  by_cases c : y = x
  · rw [if_pos c]
    by_cases c2 : v = 0
    · rw [c2] at key zero ⊢
      exact zero (fun u hu h => by rw [if_pos c] at h; omega)
    · exact key v (by omega) (by rw [if_pos c])
  · rw [if_neg c]
    have h0 := atR_nonneg hok y
    by_cases c2 : atR ts y = 0
    · rw [c2]
      exact zero (fun u hu h => by rw [if_neg c, c2] at h; omega)
    · exact key _ (by omega) (by rw [if_neg c])
theorem okW_withR {now : Int} {ts : List S88} (hok : okW now ts = true) (x v : Int) (hv : v = 0 ∨ (now < v ∧ v ≤ 1125899906842624)) : okW now (withR ts x v) = true := by
  obtain ⟨h0, h1⟩ := okW_now hok
  refine okW_of h0 h1 (withR_rise ts x v) (fun t ht => ?_)
  obtain ⟨a, b, c, d⟩ := withR_mem.1 ht
  unfold okT
  simp only [Bool.and_eq_true, decide_eq_true_eq]
  refine ⟨a, b, ?_⟩
  split at d
  · omega
  · have hne : atR ts t.f0 ≠ 0 := by omega
    obtain ⟨u, hu, h2, h3⟩ := atR_pos hne
    have := okW_mem hok hu
    rw [d, h3]; omega

/-! ### Rows with an alarm more, or less -/
theorem putA_mem {rs : List S47} (hr : RowsA rs) {x : S47} (hx : okA x = true) (y : S47) : y ∈ putA rs (bsA rs x.f0) (thereA rs x.f0) x ↔ y = x ∨ (y ∈ rs ∧ y.f0 ≠ x.f0) := by
  have hv := okA_vcpu hx
  have hinj : ∀ (i j : Nat) (hi : i < rs.length) (hj : j < rs.length), rs[i].f0 = rs[j].f0 → i = j := fun i j hi hj he => by
    rcases Nat.lt_trichotomy i j with h | h | h
    · have := riseA_at hr.rise h hj; omega
    · exact h
    · have := riseA_at hr.rise h hi; omega
  unfold putA
  cases ht : thereA rs x.f0 with
  | true =>
    obtain ⟨hb, e⟩ := thereA_bs hr (by omega) (by omega) ht
    simp only [if_true]
    constructor
    · intro h
      obtain ⟨i, hi, rfl⟩ := List.getElem_of_mem h
      rw [List.length_set] at hi
      rw [List.getElem_set]
      by_cases c : bsA rs x.f0 = i
      · rw [if_pos c]; exact Or.inl rfl
      · rw [if_neg c]
        refine Or.inr ⟨List.getElem_mem hi, fun he => c (hinj _ _ hb hi (by rw [e, he]))⟩
    · rintro (rfl | ⟨h, hne⟩)
      · exact List.mem_iff_getElem.2 ⟨bsA rs y.f0, by rw [List.length_set]; exact hb, by rw [List.getElem_set, if_pos rfl]⟩
      · obtain ⟨i, hi, rfl⟩ := List.getElem_of_mem h
        refine List.mem_iff_getElem.2 ⟨i, by rw [List.length_set]; exact hi, ?_⟩
        rw [List.getElem_set, if_neg (fun c => hne (by simp only [← c]; exact e))]
  | false =>
    have hno : ¬ ∃ t ∈ rs, t.f0 = x.f0 := fun h => by
      rw [(thereA_iff hr x.f0 (by omega) (by omega)).2 h] at ht; cases ht
    simp only [Bool.false_eq_true, if_false]
    rw [List.mem_append, List.mem_cons]
    have hsp : y ∈ rs ↔ y ∈ rs.take (bsA rs x.f0) ∨ y ∈ rs.drop (bsA rs x.f0) := by
      conv => lhs; rw [← List.take_append_drop (bsA rs x.f0) rs]
      exact List.mem_append
    constructor
    · rintro (h | rfl | h)
      · exact Or.inr ⟨hsp.2 (Or.inl h), fun he => hno ⟨y, hsp.2 (Or.inl h), he⟩⟩
      · exact Or.inl rfl
      · exact Or.inr ⟨hsp.2 (Or.inr h), fun he => hno ⟨y, hsp.2 (Or.inr h), he⟩⟩
    · rintro (rfl | ⟨h, _⟩)
      · exact Or.inr (Or.inl rfl)
      · rcases hsp.1 h with h | h
        · exact Or.inl h
        · exact Or.inr (Or.inr h)
theorem putA_rows {rs : List S47} (hr : RowsA rs) {x : S47} (hx : okA x = true) : RowsA (putA rs (bsA rs x.f0) (thereA rs x.f0) x) := by
  have hv := okA_vcpu hx
  refine ⟨?_, fun y hy => ?_⟩
  · have hsp := bsA_spec hr x.f0 (by omega) (by omega)
    unfold putA
    cases ht : thereA rs x.f0 with
    | true =>
      obtain ⟨hb, e⟩ := thereA_bs hr (by omega) (by omega) ht
      simp only [if_true]
      unfold RiseA
      rw [List.pairwise_iff_getElem]
      intro i j hi hj hij
      rw [List.length_set] at hi hj
      have := riseA_at hr.rise hij hj
      rw [List.getElem_set, List.getElem_set]
      split <;> split
      · omega
      · rename_i c1 c2; subst c1; rw [e] at this; exact this
      · rename_i c1 c2; subst c2; rw [e] at this; exact this
      · exact this
    | false =>
      have hno : ∀ t ∈ rs, t.f0 ≠ x.f0 := fun t h he => by
        rw [(thereA_iff hr x.f0 (by omega) (by omega)).2 ⟨t, h, he⟩] at ht; cases ht
      simp only [Bool.false_eq_true, if_false]
      unfold RiseA
      have hlo : ∀ t ∈ rs.take (bsA rs x.f0), t.f0 < x.f0 := fun t h => by
        obtain ⟨i, hi, rfl⟩ := List.getElem_of_mem h
        rw [List.length_take] at hi
        rw [List.getElem_take]
        exact hsp.1 i (by omega) (by omega)
      have hhi : ∀ t ∈ rs.drop (bsA rs x.f0), x.f0 < t.f0 := fun t h => by
        have hm := List.mem_of_mem_drop h
        obtain ⟨i, hi, rfl⟩ := List.getElem_of_mem h
        rw [List.length_drop] at hi
        rw [List.getElem_drop] at hm ⊢
        have h2 := hsp.2 (bsA rs x.f0 + i) (by omega) (by omega)
        have h3 := hno _ hm
        omega
      rw [List.pairwise_append, List.pairwise_cons]
      refine ⟨hr.rise.sublist (List.take_sublist _ _), ⟨hhi, hr.rise.sublist (List.drop_sublist _ _)⟩, fun a ha b hb => ?_⟩
      have h1 := hlo a ha
      rcases List.mem_cons.1 hb with rfl | hb
      · exact h1
      · have := hhi b hb; omega
  · rcases (putA_mem hr hx y).1 hy with rfl | ⟨h, _⟩
    · exact hx
    · exact hr.ok y h
theorem filter_rows {rs : List S47} (hr : RowsA rs) (own : Int) : RowsA (rs.filter (fun y => !(y.f0 == own))) :=
  ⟨hr.rise.sublist List.filter_sublist, fun y hy => hr.ok y ((List.mem_filter.1 hy).1)⟩
theorem filter_memA {rs : List S47} (own : Int) (y : S47) : y ∈ rs.filter (fun y => !(y.f0 == own)) ↔ y ∈ rs ∧ y.f0 ≠ own := by
  rw [List.mem_filter]
  simp

/-! ### Start, Stop, Sleep, Wake leave alarms that may be -/
theorem okAl_start {now : Int} {ts : List S88} {rs : List S47} (h : okAl now ts rs = true) {x : S47} (hx : okA x = true) {v : Int} (hv : now < v ∧ v ≤ 1125899906842624) : okAl now (withR ts (x.f0 - 1) v) (putA rs (bsA rs x.f0) (thereA rs x.f0) x) = true := by
  obtain ⟨hr, hw, ha⟩ := okAl_iff.1 h
  have hn := okW_now hw
  refine okAl_iff.2 ⟨putA_rows hr hx, okW_withR hw _ _ (Or.inr hv), fun own h1 h2 => ?_⟩
  rw [atR_withR hw _ _ _ (by omega) (by omega) (by omega)]
  by_cases c : own - 1 = x.f0 - 1
  · rw [if_pos c]
    exact ⟨fun _ => ⟨x, (putA_mem hr hx x).2 (Or.inl rfl), by omega⟩, fun _ => by omega⟩
  · rw [if_neg c, ha own h1 h2]
    constructor
    · rintro ⟨y, hy, e⟩; exact ⟨y, (putA_mem hr hx y).2 (Or.inr ⟨hy, by omega⟩), e⟩
    · rintro ⟨y, hy, e⟩
      rcases (putA_mem hr hx y).1 hy with rfl | ⟨h3, _⟩
      · omega
      · exact ⟨y, h3, e⟩
theorem okAl_stop {now : Int} {ts : List S88} {rs : List S47} (h : okAl now ts rs = true) (own : Int) (h1 : 1 ≤ own) (h2 : own ≤ 16) : okAl now (withR ts (own - 1) 0) (rs.filter (fun y => !(y.f0 == own))) = true := by
  obtain ⟨hr, hw, ha⟩ := okAl_iff.1 h
  refine okAl_iff.2 ⟨filter_rows hr own, okW_withR hw _ _ (Or.inl rfl), fun o h3 h4 => ?_⟩
  rw [atR_withR hw _ _ _ (by omega) (by omega) (by omega)]
  by_cases c : o - 1 = own - 1
  · rw [if_pos c]
    exact ⟨fun hh => by omega, fun ⟨y, hy, e⟩ => absurd (by omega) ((filter_memA own y).1 hy).2⟩
  · rw [if_neg c, ha o h3 h4]
    constructor
    · rintro ⟨y, hy, e⟩; exact ⟨y, (filter_memA own y).2 ⟨hy, by omega⟩, e⟩
    · rintro ⟨y, hy, e⟩; exact ⟨y, ((filter_memA own y).1 hy).1, e⟩
theorem okAl_sleep {now : Int} {ts : List S88} {rs : List S47} (h : okAl now ts rs = true) (own v : Int) (h1 : 1 ≤ own) (h2 : own ≤ 16) (hv : v = 0 ∨ (now < v ∧ v ≤ 1125899906842624)) : okAl now (withR ts (15 + own) v) rs = true := by
  obtain ⟨hr, hw, ha⟩ := okAl_iff.1 h
  have hn := okW_now hw
  refine okAl_iff.2 ⟨hr, okW_withR hw _ _ hv, fun o h3 h4 => ?_⟩
  rw [atR_withR hw _ _ _ (by omega) (by omega) (by omega), if_neg (by omega)]
  exact ha o h3 h4
end Go.Proofs.Ytlddekjlmkimnaa.C
end
section
namespace Go.Proofs.Ytlddekjlmkimnaa.C
open Go.RowKit Go.Proofs.YtlddekjlmkimnaaW.PrintWords Go.Proofs.YtlddekjlmkimnaaW.PrintLast Go.Proofs.YtlddekjlmkimnaaW.PrintMore
set_option linter.unusedVariables false
set_option linter.unusedSimpArgs false

theorem asleep_f (own : Int) (h0 : -1000 ≤ own) (h1 : own ≤ 1000) : vtimer_asleep.f own = some (15 + own) := by
  unfold vtimer_asleep.f; rw [wrap64_id (x := 16 + own) (by omega) (by omega), wrap64_id (by omega) (by omega)]; congr 1; omega
theorem sleeps_k (now : Int) (ts : List S88) (rs : List S47) (own : Int) (h0 : -1000 ≤ own) (h3 : own ≤ 1000) (h1 : ts.length ≤ 1000000) (h2 : rs.length ≤ 1000000) (k : Nat) (hk : rs.length + ts.length + 31 < k) :
    vtimer_Sleeps.f k now ts rs own = some (if okAl now ts rs = true ∧ vcpuB own = true then (atR ts (15 + own), decide (0 < atR ts (15 + own))) else (0, false)) := by
  obtain ⟨k, rfl⟩ : ∃ q, k = q + 1 := ⟨k - 1, by omega⟩
  unfold vtimer_Sleeps.f
  rw [chk_k now ts rs h1 h2 (k + 1) (by omega)]
  simp only [Option.bind_some]
  cases h : okAl now ts rs with
  | false => simp [vtimer_Sleeps.j0]
  | true =>
    rw [if_pos rfl, if_pos rfl, vcpu_f]
    simp only [Option.bind_some, vtimer_Sleeps.j0]
    cases hv : vcpuB own with
    | false => simp
    | true =>
      rw [if_neg (by simp), asleep_f own h0 h3]
      simp only [Option.bind_some]
      rw [at_f now ts _ h1, atF_ok (okAl_wheel h)]
      simp
/-- What Get tells. -/
def getF (ts : List S88) (rs : List S47) (own : Int) : Int × Int × Int × Int × Bool :=
  if posG own rs < rs.length then ((rs.getD (posG own rs) z47).f0, (rs.getD (posG own rs) z47).f1, (rs.getD (posG own rs) z47).f2, atR ts (own - 1), true) else (0, 0, 0, 0, false)
theorem get_k (now : Int) (ts : List S88) (rs : List S47) (own : Int) (h0 : -1000 ≤ own) (h3 : own ≤ 1000) (h1 : ts.length ≤ 1000000) (h2 : rs.length ≤ 1000000) (k : Nat) (hk : rs.length + ts.length + 31 < k) :
    vtimer_Get.f k now ts rs own = some (if okAl now ts rs = true then getF ts rs own else (0, 0, 0, 0, false)) := by
  obtain ⟨k, rfl⟩ : ∃ q, k = q + 1 := ⟨k - 1, by omega⟩
  unfold vtimer_Get.f
  rw [atA_f rs own h2, chk_k now ts rs h1 h2 (k + 1) (by omega)]
  simp only [Option.bind_some]
  cases h : okAl now ts rs with
  | false => simp [vtimer_Get.j0]
  | true =>
    have hr := okAl_rows h
    rw [if_pos rfl, if_pos rfl]
    simp only [vtimer_Get.j0]
    unfold getF
    cases ht : thereA rs own with
    | false =>
      have hn : ¬ posG own rs < rs.length := fun hp => by
        have := (thereA_iff hr own (by omega) (by omega)).2 (posG_lt.1 hp)
        rw [ht] at this; cases this
      rw [if_neg hn]; rfl
    | true =>
      have hp := bsA_pos hr (by omega) (by omega) ht
      have hpl := thereA_lt ht
      rw [hp] at hpl
      rw [if_neg (by simp), if_pos hpl, hp]
      unfold vtimer_alarmed.f
      simp only [Option.bind_some]
      rw [wrap64_id (by omega) (by omega), at_f now ts _ h1, atF_ok (okAl_wheel h)]
      simp only [Option.bind_some]
      rw [if_pos (by omega), if_pos (by omega)]
      simp [rd_T47]
end Go.Proofs.Ytlddekjlmkimnaa.C
end
