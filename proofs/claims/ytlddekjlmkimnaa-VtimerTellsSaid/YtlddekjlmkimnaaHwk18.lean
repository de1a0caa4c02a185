import Derived.Test.YtlddekjlmkimnaaJ29
import Derived.Test.YtlddekjlmkimnaaC20
namespace Go.Proofs.Ytlddekjlmkimnaa.C
open Go.RowKit Go.Proofs.YtlddekjlmkimnaaW.PrintWords Go.Proofs.YtlddekjlmkimnaaW.PrintLast Go.Proofs.YtlddekjlmkimnaaW.PrintMore
set_option linter.unusedVariables false
set_option linter.unusedSimpArgs false

theorem okV_iff {now : Int} {ts : List S88} {rs : List S47} (hr : RowsA rs) (hw : okW now ts = true) (v : Int) (h0 : 0 ≤ v) (h1 : v ≤ 100) : okV now ts rs v = (decide (0 < atR ts (v - 1)) == decide (idxF v rs ≥ 0)) := by
  unfold okV
  rw [atF_ok hw, thereA_find hr (by omega) (by omega)]
theorem okAl_of {now : Int} {ts : List S88} {rs : List S47} (hr : RowsA rs) (hw : okW now ts = true) (h : ∀ v : Nat, v < 16 → (decide (0 < atR ts (v : Int)) == decide (idxF ((v : Int) + 1) rs ≥ 0)) = true) : okAl now ts rs = true := by
  unfold okAl
  rw [rows_okR rs 0 hr (fun x hx => by have := okA_vcpu (hr.ok x hx); omega), hw, Bool.true_and, Bool.true_and, List.all_eq_true]
  intro v hv
  have hv := List.mem_range.1 hv
  rw [okV_iff hr hw _ (by omega) (by omega)]
  have := h v hv
  rwa [show (v : Int) + 1 - 1 = v by omega]
theorem rowsA_nil : RowsA [] := ⟨List.Pairwise.nil, fun _ h => by cases h⟩
theorem rowsA_one {x : S47} (h : okA x = true) : RowsA [x] := ⟨List.pairwise_singleton _ _, fun y hy => by simp only [List.mem_singleton] at hy; rw [hy]; exact h⟩

theorem wk_start : startF 0 [] [] ⟨2, 5, 1000⟩ 1500 = (0, [⟨1, 1500⟩], [⟨2, 5, 1000⟩], 0) := by
  have h0 : okAl 0 [] [] = true := okAl_of rowsA_nil (by decide) (by decide)
  have hs : setF 0 ([] : List S88) (2 - 1) 1500 = (0, [⟨1, 1500⟩], 0) := by
    have : withT [] ⟨2 - 1, 1500⟩ = [⟨1, 1500⟩] := by
      unfold withT found
      rw [bs_nil]; rfl
    unfold setF
    rw [this]; rfl
  unfold startF
  rw [h0, if_pos rfl, if_pos (by decide), if_pos (by decide), hs, if_pos rfl]
  have ht : thereA [] (2 : Int) = false := by simp [thereA]
  simp only
  rw [ht]
  simp [putA]
theorem wk_there : thereA [⟨2, 5, 1000⟩] 2 = true := (thereA_iff (rowsA_one (by decide)) 2 (by omega) (by omega)).2 ⟨_, List.mem_singleton.2 rfl, rfl⟩
theorem wk_bs : bsA [⟨2, 5, 1000⟩] 2 = 0 := by
  have := thereA_lt wk_there
  simp at this
  exact this
theorem wk_ok1 : okAl 0 [⟨1, 1500⟩] [⟨2, 5, 1000⟩] = true := okAl_of (rowsA_one (by decide)) (by decide) (by decide)
theorem wk_ok2 : okAl 5000 [⟨1, 5500⟩] [⟨2, 5, 1000⟩] = true := okAl_of (rowsA_one (by decide)) (by decide) (by decide)
theorem wk_pass : passV 0 [⟨1, 1500⟩] [⟨2, 5, 1000⟩] 5000 = some (5000, [⟨1, 5500⟩], [⟨2, 5, 1000⟩], [⟨2, 5, 1500, 3⟩], 0) := by
  have hp : passF 0 [⟨1, 1500⟩] 5000 = (5000, [], [⟨1, 1500⟩], 0) := by
    have : sortT [(⟨1, 1500⟩ : S88)] = [⟨1, 1500⟩] := by unfold sortT; exact List.mergeSort_singleton _
    unfold passF passOk
    have e : ([(⟨1, 1500⟩ : S88)].filter (fun x => decide (x.f1 ≤ 5000))) = [⟨1, 1500⟩] := by simp
    rw [e, this]; rfl
  have hs : setF 5000 ([] : List S88) 1 5500 = (5000, [⟨1, 5500⟩], 0) := by
    have : withT [] ⟨1, 5500⟩ = [⟨1, 5500⟩] := by
      unfold withT found
      rw [bs_nil]; rfl
    unfold setF
    rw [this]; rfl
  have hr : ringF 5000 [] [⟨2, 5, 1000⟩] ⟨1, 1500⟩ = some ([⟨1, 5500⟩], [⟨2, 5, 1000⟩], ⟨2, 5, 1500, 3⟩) := by
    unfold ringF
    have e1 : ((1 : Int) % 16 + 1) = 2 := by decide
    have ha : vtimer_again.f 2 5 1000 1500 5000 = some (3, 5500, true) := by
      unfold vtimer_again.f
      rw [if_neg (by omega)]
      have w1 : wrap64 (5000 - 1500) = 3500 := by rw [wrap64_id] <;> omega
      have w2 : Int.tdiv 3500 1000 = 3 := by rw [Int.tdiv_eq_ediv_of_nonneg (by omega)]; omega
      have w3 : wrap64 3 = 3 := by rw [wrap64_id] <;> omega
      have w4 : wrap64 (3 * 1000) = 3000 := by rw [wrap64_id] <;> omega
      have w5 : wrap64 (1500 + 3000) = 4500 := by rw [wrap64_id] <;> omega
      have w6 : wrap64 (4500 + 1000) = 5500 := by rw [wrap64_id] <;> omega
      have w7 : wrap64 (1125899906842624 - 4500) = 1125899906838124 := by rw [wrap64_id] <;> omega
      rw [w1, w2, w3, w4, w5, w6, w7]
      simp
    rw [if_pos (by decide), if_pos (by decide)]
    simp only [e1, wk_bs]
    rw [if_pos (by decide)]
    show (vtimer_again.f 2 5 1000 1500 5000).bind _ = _
    rw [ha]
    simp only [Option.bind_some, if_true, hs]
    rfl
  unfold passV
  rw [wk_ok1, if_pos rfl, hp, if_pos rfl]
  simp only [ringsGo, hr, Option.bind_some, Option.map_some]
  rfl
theorem wakes18_k (k : Nat) (hk : 40 ≤ k) : mainsheetlaw18_wakes.f k = some true := by
  obtain ⟨k, rfl⟩ : ∃ m, k = m + 1 := ⟨k - 1, by omega⟩
  unfold mainsheetlaw18_wakes.f
  have h1 : vtimer_Start.f 0 ([] : List S88) ([] : List S47) 2 5 1000 1500 = some (0, [⟨1, 1500⟩], [⟨2, 5, 1000⟩], 0) := by
    unfold vtimer_Start.f
    rw [if_pos ⟨by simp, by simp⟩, wk_start]
  have h2 : vtimer_Pass.f 0 [⟨1, 1500⟩] [⟨2, 5, 1000⟩] 5000 = some (5000, [⟨1, 5500⟩], [⟨2, 5, 1000⟩], [⟨2, 5, 1500, 3⟩], 0) := by
    unfold vtimer_Pass.f
    rw [if_pos ⟨by simp, by simp⟩, wk_pass]
  have h3 : vtimer_Get.f (k + 1) 5000 [⟨1, 5500⟩] [⟨2, 5, 1000⟩] 2 = some (2, 5, 1000, 5500, true) := by
    unfold vtimer_Get.f
    rw [atA_f _ _ (by simp), wk_there, wk_bs, chk_k _ _ _ (by simp) (by simp) (k + 1) (by simp; omega), wk_ok2]
    simp only [Option.bind_some, if_true, vtimer_Get.j0]
    rw [if_neg (by simp), alarmed_f 2 (by omega) (by omega)]
    simp only [Option.bind_some]
    rw [at_f _ _ _ (by simp), atF_ok (by decide)]
    rfl
  rw [h1]
  simp only [Option.bind_some]
  rw [h2]
  simp only [Option.bind_some]
  rw [h3]
  rfl
end Go.Proofs.Ytlddekjlmkimnaa.C
