import Derived.Test.YtolaaplnoahnkaaHref
import Derived.Test.YtolaaplnoahnkaaLsets
namespace Go.Proofs.Ytolaaplnoahnkaa.C
open Go.RowKit Go.Sort Go.Proofs.YtolaaplnoahnkaaW.PrintWords Go.Proofs.YtolaaplnoahnkaaW.PrintLast Go.Proofs.YtolaaplnoahnkaaW.PrintMore
set_option linter.unusedVariables false
set_option linter.unusedSimpArgs false

def cancelF (now : Int) (l : List S33) (id : Int) : Int × List S33 × Int :=
  if okW now l = true then (if found l id = true then (now, l.eraseIdx (bs l id), 0) else (0, [], 4)) else (0, [], 250)
theorem cancel_k (now : Int) (l : List S33) (id : Int) (hn : l.length ≤ 999999) (k : Nat) (hk : l.length + 2 ≤ k) : wheel_Cancel.f k now l id = some (cancelF now l id) := by
  unfold wheel_Cancel.f cancelF
  rw [check_k now l (by omega) k hk]
  simp only [Option.bind_some]
  cases hok : okW now l with
  | false => simp
  | true =>
    simp only [if_true]
    rw [find_ok now l id (by omega) hok]
    simp only [Option.bind_some]
    by_cases hf : found l id = true
    · rw [if_pos hf, if_pos hf]
      obtain ⟨hb, e⟩ := found_bs hf
      have hcl : api_Timer_33.f l = some l := by unfold api_Timer_33.f; rw [if_pos (by omega)]
      have hw : wrap64 ((bs l id : Int) + 1) = (bs l id : Int) + 1 := by rw [wrap64_id] <;> omega
      rw [hcl]
      simp only [Option.bind_some, hw]
      unfold api_Timer_35.f
      rw [if_pos ⟨by omega, by omega, rfl, by omega⟩]
      simp
    · rw [if_neg hf, if_neg hf]

theorem sets_j2 (k : Nat) (hk : 180 ≤ k) (x v now : Int) (l : List S33) (hn : l.length ≤ 32) (hok : okW now l = true) (b : Bool) (hb : b = decide (x < 0 ∨ x > 31 ∨ v ≤ now ∨ v > 1125899906842624)) (z : Int) (az : List S33) (ez : Int)
    (hs : setF now l x v = (z, az, ez)) : mainsheetlaw15_WheelSets.j2 k x v ez b now l z az = some true := by
  obtain ⟨k, rfl⟩ : ∃ m, k = m + 1 := ⟨k - 1, by omega⟩
  have h0 := (okW_all hok).1
  unfold setF at hs
  rw [if_pos hok] at hs
  simp only [mainsheetlaw15_WheelSets.j2]
  by_cases c : x < 0 ∨ x > 31 ∨ v ≤ now ∨ v > 1125899906842624
  · rw [hb, decide_eq_true c, if_pos rfl]
    rw [if_neg (by omega)] at hs
    obtain ⟨rfl, rfl, rfl⟩ : 0 = z ∧ [] = az ∧ 2 = ez := by simpa using hs
    rfl
  · rw [hb, decide_eq_false c, if_neg (by simp)]
    rw [if_pos (by omega), set_with hok x v (by omega) (by omega) (by omega)] at hs
    obtain ⟨rfl, rfl, rfl⟩ : now = z ∧ withR l x v = az ∧ 0 = ez := by simpa using hs
    have hwl : (withR l x v).length ≤ 1000000 := by
      have := rise_len (withR l x v) 0 (withR_rise l x v) (fun t ht => by have := withR_mem.1 ht; omega) (by omega)
      omega
    rw [if_pos rfl, with_k now l x v (by omega) k (by omega)]
    simp only [Option.bind_some]
    have hwl2 : (withR l x v).length ≤ 32 := by
      have := rise_len (withR l x v) 0 (withR_rise l x v) (fun t ht => by have := withR_mem.1 ht; omega) (by omega)
      omega
    rw [same_k now _ now _ hwl k (by omega)]
    simp

theorem sets_j1 (k : Nat) (hk : 181 ≤ k) (x v now : Int) (l : List S33) (hn : l.length ≤ 32) (hok : okW now l = true) (z : Int) (az : List S33) (ez : Int)
    (hs : setF now l x v = (z, az, ez)) : mainsheetlaw15_WheelSets.j1 k x v ez now l z az = some true := by
  obtain ⟨k, rfl⟩ : ∃ m, k = m + 1 := ⟨k - 1, by omega⟩
  simp only [mainsheetlaw15_WheelSets.j1]
  have hj := fun b hb => sets_j2 k (by omega) x v now l hn hok b hb z az ez hs
  by_cases c1 : x < 0
  · rw [if_pos c1]; exact hj true (decide_eq_true (by omega)).symm
  rw [if_neg c1]
  by_cases c2 : x > 31
  · rw [if_pos c2]; exact hj true (decide_eq_true (by omega)).symm
  rw [if_neg c2]
  by_cases c3 : v ≤ now
  · rw [if_pos c3]; exact hj true (decide_eq_true (by omega)).symm
  rw [if_neg c3]
  exact hj _ (by rw [decide_eq_decide]; omega)

theorem wheelSets_true (now : Int) (l : List S33) (x v : Int) : mainsheetlaw15_WheelSets.f 400 now l x v = some true := by
  unfold mainsheetlaw15_WheelSets.f
  rw [wakes_k 400 (by omega)]
  simp only [Option.bind_some, if_true]
  by_cases h100 : (l.length : Int) > 100
  · rw [if_pos h100]
  rw [if_neg h100]
  have hn : l.length ≤ 100 := by omega
  rw [copied_f now l (by omega)]
  simp only [Option.bind_some]
  rw [set_k now l x v (by omega) 400 (by omega), cancel_k now l x (by omega) 400 (by omega), at_f now l x (by omega)]
  simp only [Option.bind_some]
  rw [same_k now l now l (by omega) 400 (by omega), right_k now l (by omega) 400 (by omega)]
  simp only [Option.bind_some, and_self, decide_true, if_true]
  by_cases hok : okW now l = true
  · rw [if_pos hok, refAt_k now l x (by omega) 400 (by omega)]
    simp only [Option.bind_some]
    have hl := okW_len hok
    rw [atF_ok hok x]
    simp only [if_true]
    have hj1 := sets_j1 398 (by omega) x v now l hl hok (setF now l x v).1 (setF now l x v).2.1 (setF now l x v).2.2 rfl
    have e0 : (decide (0 < atR l x) != decide (atR l x > 0)) = false := by simp
    rw [e0]
    obtain ⟨hf1, hf2⟩ := atR_found hok x
    show mainsheetlaw15_WheelSets.j0 (399 + 1) _ _ _ _ _ _ _ _ _ _ _ _ = _
    simp only [mainsheetlaw15_WheelSets.j0]
    rw [if_neg (by simp)]
    have hj1' : mainsheetlaw15_WheelSets.j1 399 x v (setF now l x v).2.2 now l (setF now l x v).1 (setF now l x v).2.1 = some true := sets_j1 399 (by omega) x v now l hl hok _ _ _ rfl
    unfold cancelF
    rw [if_pos hok]
    by_cases hf : found l x = true
    · have := hf1 hf
      rw [if_neg (by omega), if_pos hf]
      simp only [if_true]
      rw [with_k now l x 0 (by omega) 399 (by omega)]
      simp only [Option.bind_some]
      have he := erase_with hok x hf
      have hel : (l.eraseIdx (bs l x)).length ≤ l.length := (List.eraseIdx_sublist _ _).length_le
      rw [same_k now _ now _ (by omega) 399 (by omega), he]
      simp only [Option.bind_some, and_self, decide_true, if_true]
      exact hj1'
    · rw [if_pos (hf2 hf), if_neg hf]
      simp only [if_true]
      rw [if_pos (by simp)]
      exact hj1'
  · have hok' : okW now l = false := by simpa using hok
    have ha : atF now l x = (0, false) := by unfold atF; rw [hok', Bool.and_false]; rfl
    have hs : setF now l x v = (0, [], 250) := by unfold setF; rw [if_neg hok]
    have hc : cancelF now l x = (0, [], 250) := by unfold cancelF; rw [if_neg hok]
    rw [if_neg hok, ha, hs, hc]
    rfl
end Go.Proofs.Ytolaaplnoahnkaa.C
