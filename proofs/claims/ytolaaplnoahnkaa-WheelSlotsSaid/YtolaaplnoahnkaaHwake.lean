import Derived.Test.YtolaaplnoahnkaaHfuel
import Derived.Test.YtolaaplnoahnkaaC12
namespace Go.Proofs.Ytolaaplnoahnkaa.C
open Go.RowKit Go.Proofs.YtolaaplnoahnkaaW.PrintWords Go.Proofs.YtolaaplnoahnkaaW.PrintLast Go.Proofs.YtolaaplnoahnkaaW.PrintMore
set_option linter.unusedVariables false
set_option linter.unusedSimpArgs false

def atF (now : Int) (l : List S33) (id : Int) : Int × Bool := if (found l id && okW now l) = true then ((l.getD (bs l id) z33).f1, true) else (0, false)
theorem at_f (now : Int) (l : List S33) (id : Int) (hn : l.length ≤ 1000000) : wheel_At.f now l id = some (atF now l id) := by
  unfold wheel_At.f wheel_find.f atF
  rw [if_pos hn]
  simp only [Option.bind_some]
  show (if (found l id && okW now l) = true then _ else _) = _
  by_cases h : (found l id && okW now l) = true
  · rw [if_pos h, if_pos h]
    have : bs l id < l.length := by
      unfold found at h
      simp only [Bool.and_eq_true, decide_eq_true_eq] at h
      exact h.1.1
    rw [if_pos (by omega), if_pos (by omega)]
    rfl
  · rw [if_neg h, if_neg h]

theorem bs_nil (x : Int) : bs [] x = 0 := by unfold bs; exact bsGo_end _ _ _ _ (by simp)
theorem bs_one (a : S33) (x : Int) (h : ¬ a.f0 < x) : bs [a] x = 0 := by
  unfold bs
  rw [bsGo_at _ _ _ _ (by simp)]
  have : (([a] : List S33).getD ((0 + [a].length) / 2) z33) = a := by simp
  rw [this, if_neg h]
  exact bsGo_end _ _ _ _ (by simp)
theorem place_60 : placeF 60 64 = (1, 1) := by decide

theorem wakes_k (k : Nat) (hk : 3 ≤ k) : mainsheetlaw15_wakes.f k = some true := by
  unfold mainsheetlaw15_wakes.f
  have hs : wheel_Set.f k 60 ([] : List S33) 1 64 = some (60, [⟨1, 64⟩], 0) := by
    rw [set_k 60 [] 1 64 (by simp) k (by simp; omega)]
    have : withT [] ⟨1, 64⟩ = [⟨1, 64⟩] := by
      unfold withT found
      rw [bs_nil]; rfl
    unfold setF
    rw [this]; rfl
  have hf : found [⟨1, 64⟩] 1 = true := by unfold found; rw [bs_one _ _ (by decide)]; rfl
  have ha : wheel_At.f 60 [⟨1, 64⟩] 1 = some (64, true) := by
    rw [at_f _ _ _ (by simp)]
    unfold atF
    rw [hf, bs_one _ _ (by decide)]; rfl
  have hp : wheel_Place.f 60 [⟨1, 64⟩] 1 = some (1, 1, true) := by
    unfold wheel_Place.f
    rw [ha]
    simp only [Option.bind_some, if_true]
    unfold wheel_place.f
    rw [if_pos (by decide), place_60]
    rfl
  have hq : wheel_Pass.f k 60 [⟨1, 64⟩] 64 = some (64, [], [⟨1, 64⟩], 0) := by
    rw [pass_k _ _ _ (by simp) k (by simp; omega)]
    have : sortT [(⟨1, 64⟩ : S33)] = [⟨1, 64⟩] := by unfold sortT; exact List.mergeSort_singleton _
    unfold passF passOk
    have e : ([(⟨1, 64⟩ : S33)].filter (fun x => decide (x.f1 ≤ 64))) = [⟨1, 64⟩] := by simp
    rw [e, this]; rfl
  simp only [hs, Option.bind_some, hp, hq]
  rfl
end Go.Proofs.Ytolaaplnoahnkaa.C
