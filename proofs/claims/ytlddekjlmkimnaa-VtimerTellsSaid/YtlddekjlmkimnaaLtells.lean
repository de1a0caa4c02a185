import Derived.Test.YtlddekjlmkimnaaJ5
import Derived.Test.YtlddekjlmkimnaaJ6
import Derived.Test.YtlddekjlmkimnaaJ24
import Derived.Test.YtlddekjlmkimnaaC17
import Derived.Test.YtlddekjlmkimnaaC18
import Derived.Test.YtlddekjlmkimnaaLr7
import Derived.Test.YtlddekjlmkimnaaC22
import Derived.Test.YtlddekjlmkimnaaC24
import Derived.Test.YtlddekjlmkimnaaC25
import Derived.Test.YtlddekjlmkimnaaC26
-- Written by a program of this session (wip/tools/stub.py, over the kit's print) and by hand; not the kit's print.
namespace Go.Proofs.Ytlddekjlmkimnaa.C
open Go.RowKit Go.Proofs.YtlddekjlmkimnaaW.PrintWords Go.Proofs.YtlddekjlmkimnaaW.PrintLast Go.Proofs.YtlddekjlmkimnaaW.PrintMore
attribute [local go_sem] max2_int min2_int max_two min_two max_three min_three max_four min_four   -- for this text's walks alone
set_option linter.unusedVariables false
set_option linter.unusedSimpArgs false

attribute [local go_sem high] eqA47
/-! ### mainsheetlaw18_VtimerTells: function 5 -/
mutual
def mainsheetlaw18_VtimerTells.l0 : Nat → List (S27) → List (S27) → Int → Int → Option (Bool)
 | 0, _, _, _, _ => none
 | k + 1, x0, x24, x25, x26 => if x26 < x25 then (if 0 ≤ x26 then (if x26 < (x24.length : Int) then (if x26 = 8 then (some true) else ((mainsheetlaw18_short.f ((rd_T27 x24 x26).f0.f0) ((rd_T27 x24 x26).f0.f1) ((rd_T27 x24 x26).f1)).bind fun bt352 => (if 0 < (x0.length : Int) then ((mainsheetlaw18_short.f ((rd_T27 x0 0).f0.f0) ((rd_T27 x0 0).f0.f1) ((rd_T27 x0 0).f1)).bind fun bt360 => ((mainsheetref18_Right.f k bt352.1 bt352.2.1 bt352.2.2).bind fun t369 => ((vtimer_Check.f k bt352.1 bt352.2.1 bt352.2.2).bind fun t370 => (if ((t370 == 0) != t369) = true then (mainsheetlaw18_VtimerTells.j1 k x0 t369 x24 x25 x26 true bt352.1 bt352.2.1 bt352.2.2) else (if t369 = true then ((vtimer_Same.f k bt352.1 bt352.2.1 bt352.2.2 bt360.1 bt360.2.1 bt360.2.2).bind fun t371 => ((mainsheetref18_Same.f k bt352.1 bt352.2.1 bt352.2.2 bt360.1 bt360.2.1 bt360.2.2).bind fun t372 => (if (t371 != t372) = true then (mainsheetlaw18_VtimerTells.j1 k x0 t369 x24 x25 x26 true bt352.1 bt352.2.1 bt352.2.2) else ((mainsheetlaw18_short.f ((rd_T27 x24 x26).f0.f0) ((rd_T27 x24 x26).f0.f1) ((rd_T27 x24 x26).f1)).bind fun bt373 => ((vtimer_Same.f k bt352.1 bt352.2.1 bt352.2.2 bt373.1 bt373.2.1 bt373.2.2).bind fun t380 => (mainsheetlaw18_VtimerTells.j1 k x0 t369 x24 x25 x26 (!t380) bt352.1 bt352.2.1 bt352.2.2)))))) else (if t370 = 280 then ((vtimer_Same.f k bt352.1 bt352.2.1 bt352.2.2 bt360.1 bt360.2.1 bt360.2.2).bind fun t381 => ((mainsheetref18_Same.f k bt352.1 bt352.2.1 bt352.2.2 bt360.1 bt360.2.1 bt360.2.2).bind fun t382 => (if (t381 != t382) = true then (mainsheetlaw18_VtimerTells.j1 k x0 t369 x24 x25 x26 true bt352.1 bt352.2.1 bt352.2.2) else ((mainsheetlaw18_short.f ((rd_T27 x24 x26).f0.f0) ((rd_T27 x24 x26).f0.f1) ((rd_T27 x24 x26).f1)).bind fun bt383 => ((vtimer_Same.f k bt352.1 bt352.2.1 bt352.2.2 bt383.1 bt383.2.1 bt383.2.2).bind fun t390 => (mainsheetlaw18_VtimerTells.j1 k x0 t369 x24 x25 x26 (!t390) bt352.1 bt352.2.1 bt352.2.2)))))) else (mainsheetlaw18_VtimerTells.j1 k x0 t369 x24 x25 x26 true bt352.1 bt352.2.1 bt352.2.2))))))) else (none)))) else (none)) else (none)) else (some true)
def mainsheetlaw18_VtimerTells.j1 : Nat → List (S27) → Bool → List (S27) → Int → Int → Bool → Int → List (S88) → List (S47) → Option (Bool)
 | 0, _, _, _, _, _, _, _, _, _ => none
 | k + 1, x0, x7, x24, x25, x26, x70, x368000, x368001, x368002 => if x70 = true then (some false) else ((vtimer_Next.f k x368000 x368001 x368002).bind fun bt391 => ((mainsheetref18_Next.f k x368000 x368001 x368002).bind fun t393 => (if x7 = true then (if bt391.1 = t393 then (if (bt391.2 != (decide (t393 > 0))) = true then (mainsheetlaw18_VtimerTells.j2 k x0 x7 x24 x25 x26 true x368000 x368001 x368002) else (mainsheetlaw18_VtimerTells.j2 k x0 x7 x24 x25 x26 false x368000 x368001 x368002)) else (mainsheetlaw18_VtimerTells.j2 k x0 x7 x24 x25 x26 true x368000 x368001 x368002)) else (if bt391.1 = 0 then (mainsheetlaw18_VtimerTells.j2 k x0 x7 x24 x25 x26 bt391.2 x368000 x368001 x368002) else (mainsheetlaw18_VtimerTells.j2 k x0 x7 x24 x25 x26 true x368000 x368001 x368002)))))
def mainsheetlaw18_VtimerTells.j2 : Nat → List (S27) → Bool → List (S27) → Int → Int → Bool → Int → List (S88) → List (S47) → Option (Bool)
 | 0, _, _, _, _, _, _, _, _, _ => none
 | k + 1, x0, x7, x24, x25, x26, x100, x368000, x368001, x368002 => if x100 = true then (some false) else (mainsheetlaw18_VtimerTells.l1 k x0 x7 x24 x25 x26 0 x368000 x368001 x368002)
def mainsheetlaw18_VtimerTells.l1 : Nat → List (S27) → Bool → List (S27) → Int → Int → Int → Int → List (S88) → List (S47) → Option (Bool)
 | 0, _, _, _, _, _, _, _, _, _ => none
 | k + 1, x0, x7, x24, x25, x26, x101, x368000, x368001, x368002 => if x101 < 19 then ((vtimer_Get.f k x368000 x368001 x368002 (wrap64 (x101 - 1))).bind fun bt394 => ((vtimer_Sleeps.f k x368000 x368001 x368002 (wrap64 (x101 - 1))).bind fun bt400 => (if x7 = true then ((mainsheetref18_Get.f k x368000 x368001 x368002 (wrap64 (x101 - 1))).bind fun bt403 => ((mainsheetref18_Sleeps.f k x368000 x368001 x368002 (wrap64 (x101 - 1))).bind fun t408 => (if (!(bt394.1 == bt403.1) || (!(bt394.2.1 == bt403.2.1) || (!(bt394.2.2.1 == bt403.2.2.1)))) = true then (some false) else (if bt394.2.2.2.1 = bt403.2.2.2.1 then (if (bt394.2.2.2.2 != bt403.2.2.2.2) = true then (some false) else (if bt400.1 = t408 then (if (bt400.2 != (decide (t408 > 0))) = true then (some false) else (mainsheetlaw18_VtimerTells.l1 k x0 x7 x24 x25 x26 (wrap64 (x101 + 1)) x368000 x368001 x368002)) else (some false))) else (some false))))) else (if (!(bt394.1 == 0) || (!(bt394.2.1 == 0) || (!(bt394.2.2.1 == 0)))) = true then (some false) else (if bt394.2.2.2.1 = 0 then (if (bt394.2.2.2.2 != false) = true then (some false) else (if bt400.1 = 0 then (if (bt400.2 != (decide (0 > 0))) = true then (some false) else (mainsheetlaw18_VtimerTells.l1 k x0 x7 x24 x25 x26 (wrap64 (x101 + 1)) x368000 x368001 x368002)) else (some false))) else (some false)))))) else (mainsheetlaw18_VtimerTells.l0 k x0 x24 x25 (wrap64 (x26 + 1)))
end
def mainsheetlaw18_VtimerTells.f (k : Nat) (l0 : List (S27)) : Option (Bool) := (mainsheetlaw18_wakes.f k).bind fun t349 => (if t349 = true then (mainsheetlaw18_VtimerTells.l0 k l0 l0 (l0.length : Int) 0) else (some false))
theorem mainsheetlaw18_VtimerTells.mono_l : ∀ k, (∀ y0 y1 y2 y3, LeO (mainsheetlaw18_VtimerTells.l0 k y0 y1 y2 y3) (mainsheetlaw18_VtimerTells.l0 (k + 1) y0 y1 y2 y3)) ∧ (∀ y0 y1 y2 y3 y4 y5 y6 y7 y8, LeO (mainsheetlaw18_VtimerTells.j1 k y0 y1 y2 y3 y4 y5 y6 y7 y8) (mainsheetlaw18_VtimerTells.j1 (k + 1) y0 y1 y2 y3 y4 y5 y6 y7 y8)) ∧ (∀ y0 y1 y2 y3 y4 y5 y6 y7 y8, LeO (mainsheetlaw18_VtimerTells.j2 k y0 y1 y2 y3 y4 y5 y6 y7 y8) (mainsheetlaw18_VtimerTells.j2 (k + 1) y0 y1 y2 y3 y4 y5 y6 y7 y8)) ∧ (∀ y0 y1 y2 y3 y4 y5 y6 y7 y8, LeO (mainsheetlaw18_VtimerTells.l1 k y0 y1 y2 y3 y4 y5 y6 y7 y8) (mainsheetlaw18_VtimerTells.l1 (k + 1) y0 y1 y2 y3 y4 y5 y6 y7 y8))
 | 0 => ⟨fun _ _ _ _ r h => by simp [mainsheetlaw18_VtimerTells.l0] at h, fun _ _ _ _ _ _ _ _ _ r h => by simp [mainsheetlaw18_VtimerTells.j1] at h, fun _ _ _ _ _ _ _ _ _ r h => by simp [mainsheetlaw18_VtimerTells.j2] at h, fun _ _ _ _ _ _ _ _ _ r h => by simp [mainsheetlaw18_VtimerTells.l1] at h⟩
 | k + 1 => by
  obtain ⟨ih0, ih1, ih2, ih3⟩ := mainsheetlaw18_VtimerTells.mono_l k
  refine ⟨?_, ?_, ?_, ?_⟩
  · intro y0 y1 y2 y3
    unfold mainsheetlaw18_VtimerTells.l0
    repeat' first
    | (with_reducible exact ih0 _ _ _ _)
    | (with_reducible exact ih1 _ _ _ _ _ _ _ _ _)
    | (with_reducible exact ih2 _ _ _ _ _ _ _ _ _)
    | (with_reducible exact ih3 _ _ _ _ _ _ _ _ _)
    | (with_reducible exact mainsheetlaw18_wakes.mono _)
    | (with_reducible exact mainsheetref18_Get.mono _ _ _ _ _)
    | (with_reducible exact mainsheetref18_Next.mono _ _ _ _)
    | (with_reducible exact mainsheetref18_Right.mono _ _ _ _)
    | (with_reducible exact mainsheetref18_Same.mono _ _ _ _ _ _ _)
    | (with_reducible exact mainsheetref18_Sleeps.mono _ _ _ _ _)
    | (with_reducible exact vtimer_Check.mono _ _ _ _)
    | (with_reducible exact vtimer_Get.mono _ _ _ _ _)
    | (with_reducible exact vtimer_Next.mono _ _ _ _)
    | (with_reducible exact vtimer_Same.mono _ _ _ _ _ _ _)
    | (with_reducible exact vtimer_Sleeps.mono _ _ _ _ _)
    | (with_reducible exact LeO.refl _)
    | (with_reducible exact LeO.none _)
    | (with_reducible refine LeO.ite ?_ ?_)
    | (with_reducible refine LeO.bind ?_ (fun _ => ?_))
    | exact ih0 _ _ _ _
    | exact ih1 _ _ _ _ _ _ _ _ _
    | exact ih2 _ _ _ _ _ _ _ _ _
    | exact ih3 _ _ _ _ _ _ _ _ _
    | exact mainsheetlaw18_wakes.mono _
    | exact mainsheetref18_Get.mono _ _ _ _ _
    | exact mainsheetref18_Next.mono _ _ _ _
    | exact mainsheetref18_Right.mono _ _ _ _
    | exact mainsheetref18_Same.mono _ _ _ _ _ _ _
    | exact mainsheetref18_Sleeps.mono _ _ _ _ _
    | exact vtimer_Check.mono _ _ _ _
    | exact vtimer_Get.mono _ _ _ _ _
    | exact vtimer_Next.mono _ _ _ _
    | exact vtimer_Same.mono _ _ _ _ _ _ _
    | exact vtimer_Sleeps.mono _ _ _ _ _
    | exact LeO.none _
    | refine LeO.ite ?_ ?_
    | refine LeO.bind ?_ (fun _ => ?_)
  · intro y0 y1 y2 y3 y4 y5 y6 y7 y8
    unfold mainsheetlaw18_VtimerTells.j1
    repeat' first
    | (with_reducible exact ih0 _ _ _ _)
    | (with_reducible exact ih1 _ _ _ _ _ _ _ _ _)
    | (with_reducible exact ih2 _ _ _ _ _ _ _ _ _)
    | (with_reducible exact ih3 _ _ _ _ _ _ _ _ _)
    | (with_reducible exact mainsheetlaw18_wakes.mono _)
    | (with_reducible exact mainsheetref18_Get.mono _ _ _ _ _)
    | (with_reducible exact mainsheetref18_Next.mono _ _ _ _)
    | (with_reducible exact mainsheetref18_Right.mono _ _ _ _)
    | (with_reducible exact mainsheetref18_Same.mono _ _ _ _ _ _ _)
    | (with_reducible exact mainsheetref18_Sleeps.mono _ _ _ _ _)
    | (with_reducible exact vtimer_Check.mono _ _ _ _)
    | (with_reducible exact vtimer_Get.mono _ _ _ _ _)
    | (with_reducible exact vtimer_Next.mono _ _ _ _)
    | (with_reducible exact vtimer_Same.mono _ _ _ _ _ _ _)
    | (with_reducible exact vtimer_Sleeps.mono _ _ _ _ _)
    | (with_reducible exact LeO.refl _)
    | (with_reducible exact LeO.none _)
    | (with_reducible refine LeO.ite ?_ ?_)
    | (with_reducible refine LeO.bind ?_ (fun _ => ?_))
    | exact ih0 _ _ _ _
    | exact ih1 _ _ _ _ _ _ _ _ _
    | exact ih2 _ _ _ _ _ _ _ _ _
    | exact ih3 _ _ _ _ _ _ _ _ _
    | exact mainsheetlaw18_wakes.mono _
    | exact mainsheetref18_Get.mono _ _ _ _ _
    | exact mainsheetref18_Next.mono _ _ _ _
    | exact mainsheetref18_Right.mono _ _ _ _
    | exact mainsheetref18_Same.mono _ _ _ _ _ _ _
    | exact mainsheetref18_Sleeps.mono _ _ _ _ _
    | exact vtimer_Check.mono _ _ _ _
    | exact vtimer_Get.mono _ _ _ _ _
    | exact vtimer_Next.mono _ _ _ _
    | exact vtimer_Same.mono _ _ _ _ _ _ _
    | exact vtimer_Sleeps.mono _ _ _ _ _
    | exact LeO.none _
    | refine LeO.ite ?_ ?_
    | refine LeO.bind ?_ (fun _ => ?_)
  · intro y0 y1 y2 y3 y4 y5 y6 y7 y8
    unfold mainsheetlaw18_VtimerTells.j2
    repeat' first
    | (with_reducible exact ih0 _ _ _ _)
    | (with_reducible exact ih1 _ _ _ _ _ _ _ _ _)
    | (with_reducible exact ih2 _ _ _ _ _ _ _ _ _)
    | (with_reducible exact ih3 _ _ _ _ _ _ _ _ _)
    | (with_reducible exact mainsheetlaw18_wakes.mono _)
    | (with_reducible exact mainsheetref18_Get.mono _ _ _ _ _)
    | (with_reducible exact mainsheetref18_Next.mono _ _ _ _)
    | (with_reducible exact mainsheetref18_Right.mono _ _ _ _)
    | (with_reducible exact mainsheetref18_Same.mono _ _ _ _ _ _ _)
    | (with_reducible exact mainsheetref18_Sleeps.mono _ _ _ _ _)
    | (with_reducible exact vtimer_Check.mono _ _ _ _)
    | (with_reducible exact vtimer_Get.mono _ _ _ _ _)
    | (with_reducible exact vtimer_Next.mono _ _ _ _)
    | (with_reducible exact vtimer_Same.mono _ _ _ _ _ _ _)
    | (with_reducible exact vtimer_Sleeps.mono _ _ _ _ _)
    | (with_reducible exact LeO.refl _)
    | (with_reducible exact LeO.none _)
    | (with_reducible refine LeO.ite ?_ ?_)
    | (with_reducible refine LeO.bind ?_ (fun _ => ?_))
    | exact ih0 _ _ _ _
    | exact ih1 _ _ _ _ _ _ _ _ _
    | exact ih2 _ _ _ _ _ _ _ _ _
    | exact ih3 _ _ _ _ _ _ _ _ _
    | exact mainsheetlaw18_wakes.mono _
    | exact mainsheetref18_Get.mono _ _ _ _ _
    | exact mainsheetref18_Next.mono _ _ _ _
    | exact mainsheetref18_Right.mono _ _ _ _
    | exact mainsheetref18_Same.mono _ _ _ _ _ _ _
    | exact mainsheetref18_Sleeps.mono _ _ _ _ _
    | exact vtimer_Check.mono _ _ _ _
    | exact vtimer_Get.mono _ _ _ _ _
    | exact vtimer_Next.mono _ _ _ _
    | exact vtimer_Same.mono _ _ _ _ _ _ _
    | exact vtimer_Sleeps.mono _ _ _ _ _
    | exact LeO.none _
    | refine LeO.ite ?_ ?_
    | refine LeO.bind ?_ (fun _ => ?_)
  · intro y0 y1 y2 y3 y4 y5 y6 y7 y8
    unfold mainsheetlaw18_VtimerTells.l1
    repeat' first
    | (with_reducible exact ih0 _ _ _ _)
    | (with_reducible exact ih1 _ _ _ _ _ _ _ _ _)
    | (with_reducible exact ih2 _ _ _ _ _ _ _ _ _)
    | (with_reducible exact ih3 _ _ _ _ _ _ _ _ _)
    | (with_reducible exact mainsheetlaw18_wakes.mono _)
    | (with_reducible exact mainsheetref18_Get.mono _ _ _ _ _)
    | (with_reducible exact mainsheetref18_Next.mono _ _ _ _)
    | (with_reducible exact mainsheetref18_Right.mono _ _ _ _)
    | (with_reducible exact mainsheetref18_Same.mono _ _ _ _ _ _ _)
    | (with_reducible exact mainsheetref18_Sleeps.mono _ _ _ _ _)
    | (with_reducible exact vtimer_Check.mono _ _ _ _)
    | (with_reducible exact vtimer_Get.mono _ _ _ _ _)
    | (with_reducible exact vtimer_Next.mono _ _ _ _)
    | (with_reducible exact vtimer_Same.mono _ _ _ _ _ _ _)
    | (with_reducible exact vtimer_Sleeps.mono _ _ _ _ _)
    | (with_reducible exact LeO.refl _)
    | (with_reducible exact LeO.none _)
    | (with_reducible refine LeO.ite ?_ ?_)
    | (with_reducible refine LeO.bind ?_ (fun _ => ?_))
    | exact ih0 _ _ _ _
    | exact ih1 _ _ _ _ _ _ _ _ _
    | exact ih2 _ _ _ _ _ _ _ _ _
    | exact ih3 _ _ _ _ _ _ _ _ _
    | exact mainsheetlaw18_wakes.mono _
    | exact mainsheetref18_Get.mono _ _ _ _ _
    | exact mainsheetref18_Next.mono _ _ _ _
    | exact mainsheetref18_Right.mono _ _ _ _
    | exact mainsheetref18_Same.mono _ _ _ _ _ _ _
    | exact mainsheetref18_Sleeps.mono _ _ _ _ _
    | exact vtimer_Check.mono _ _ _ _
    | exact vtimer_Get.mono _ _ _ _ _
    | exact vtimer_Next.mono _ _ _ _
    | exact vtimer_Same.mono _ _ _ _ _ _ _
    | exact vtimer_Sleeps.mono _ _ _ _ _
    | exact LeO.none _
    | refine LeO.ite ?_ ?_
    | refine LeO.bind ?_ (fun _ => ?_)
theorem mainsheetlaw18_VtimerTells.mono : ∀ a0 k, LeO (mainsheetlaw18_VtimerTells.f k a0) (mainsheetlaw18_VtimerTells.f (k + 1) a0) := by
 intro a0 k
 obtain ⟨ih0, ih1, ih2, ih3⟩ := mainsheetlaw18_VtimerTells.mono_l k
 unfold mainsheetlaw18_VtimerTells.f
 repeat' first
  | (with_reducible exact ih0 _ _ _ _)
  | (with_reducible exact ih1 _ _ _ _ _ _ _ _ _)
  | (with_reducible exact ih2 _ _ _ _ _ _ _ _ _)
  | (with_reducible exact ih3 _ _ _ _ _ _ _ _ _)
  | (with_reducible exact mainsheetlaw18_wakes.mono _)
  | (with_reducible exact mainsheetref18_Get.mono _ _ _ _ _)
  | (with_reducible exact mainsheetref18_Next.mono _ _ _ _)
  | (with_reducible exact mainsheetref18_Right.mono _ _ _ _)
  | (with_reducible exact mainsheetref18_Same.mono _ _ _ _ _ _ _)
  | (with_reducible exact mainsheetref18_Sleeps.mono _ _ _ _ _)
  | (with_reducible exact vtimer_Check.mono _ _ _ _)
  | (with_reducible exact vtimer_Get.mono _ _ _ _ _)
  | (with_reducible exact vtimer_Next.mono _ _ _ _)
  | (with_reducible exact vtimer_Same.mono _ _ _ _ _ _ _)
  | (with_reducible exact vtimer_Sleeps.mono _ _ _ _ _)
  | (with_reducible exact LeO.refl _)
  | (with_reducible exact LeO.none _)
  | (with_reducible refine LeO.ite ?_ ?_)
  | (with_reducible refine LeO.bind ?_ (fun _ => ?_))
  | exact ih0 _ _ _ _
  | exact ih1 _ _ _ _ _ _ _ _ _
  | exact ih2 _ _ _ _ _ _ _ _ _
  | exact ih3 _ _ _ _ _ _ _ _ _
  | exact mainsheetlaw18_wakes.mono _
  | exact mainsheetref18_Get.mono _ _ _ _ _
  | exact mainsheetref18_Next.mono _ _ _ _
  | exact mainsheetref18_Right.mono _ _ _ _
  | exact mainsheetref18_Same.mono _ _ _ _ _ _ _
  | exact mainsheetref18_Sleeps.mono _ _ _ _ _
  | exact vtimer_Check.mono _ _ _ _
  | exact vtimer_Get.mono _ _ _ _ _
  | exact vtimer_Next.mono _ _ _ _
  | exact vtimer_Same.mono _ _ _ _ _ _ _
  | exact vtimer_Sleeps.mono _ _ _ _ _
  | exact LeO.none _
  | refine LeO.ite ?_ ?_
  | refine LeO.bind ?_ (fun _ => ?_)
def mainsheetlaw18_VtimerTells.T7 : Bool × List (List Nat × List Nat) := (true, [([], []), ([0], [0]), ([], []), ([2], [2]), ([3], [3]), ([4, 1], [4]), ([], []), ([], []), ([6, 1, 5, 0, 1, 6, 7], [1, 6]), ([7, 5, 8, 0, 1, 2, 3, 4, 5, 6, 7, 8], [5, 7])])
def mainsheetlaw18_VtimerTells.B7 : List Nat := [0, 1, 0, 4, 12, 31, 0, 0, 255, 511]
theorem mainsheetlaw18_VtimerTells.tab7 : rtab .any (opsOf Try.f5 7) = mainsheetlaw18_VtimerTells.T7 := by kernel_rfl
theorem mainsheetlaw18_VtimerTells.bits7 : waitsOk mainsheetlaw18_VtimerTells.T7.2 mainsheetlaw18_VtimerTells.B7 = true := by kernel_rfl
def mainsheetlaw18_VtimerTells.T10 : Bool × List (List Nat × List Nat) := (true, [([], []), ([0], [0]), ([], []), ([1, 2], [1, 2]), ([3], [3]), ([4], [4]), ([5, 4], [4, 5]), ([6, 4, 4], [4, 6]), ([7], [7]), ([8, 7], [7, 8]), ([7, 9, 4], [4, 7, 9]), ([4, 10], [4, 10]), ([11, 7], [11]), ([12], [12]), ([12], [12]), ([13, 14, 12, 12], [12, 13, 14]), ([12], [12]), ([12], [12]), ([16, 17, 15, 12], [12, 16, 17]), ([15, 18, 12], [12, 15, 18]), ([12, 19], [12, 19]), ([20, 18], [20]), ([21], [21]), ([21], [21]), ([23, 21, 21], [21, 23]), ([22, 24, 24, 21], [21, 22, 24]), ([25, 21], [21, 25]), ([21, 26], [21, 26])])
def mainsheetlaw18_VtimerTells.B10 : List Nat := [0, 1, 0, 7, 15, 31, 63, 127, 255, 511, 1023, 2047, 4095, 8191, 8191, 32767, 8191, 8191, 262143, 524287, 1048575, 2097151, 4194303, 4194303, 12582911, 33554431, 67108863, 134217727]
theorem mainsheetlaw18_VtimerTells.tab10 : rtab .any (opsOf Try.f5 10) = mainsheetlaw18_VtimerTells.T10 := by kernel_rfl
theorem mainsheetlaw18_VtimerTells.bits10 : waitsOk mainsheetlaw18_VtimerTells.T10.2 mainsheetlaw18_VtimerTells.B10 = true := by kernel_rfl
theorem mainsheetlaw18_VtimerTells.j1_true {k : Nat} {r : Bool} {y0 y1 y2 y3 y4 y6 y7 y8} (h : mainsheetlaw18_VtimerTells.j1 k y0 y1 y2 y3 y4 true y6 y7 y8 = some r) (hr : r = true) : False := by
 subst hr
 cases k with
 | zero => simp [mainsheetlaw18_VtimerTells.j1] at h
 | succ k => simp [mainsheetlaw18_VtimerTells.j1] at h
theorem mainsheetlaw18_VtimerTells.j2_true {k : Nat} {r : Bool} {y0 y1 y2 y3 y4 y6 y7 y8} (h : mainsheetlaw18_VtimerTells.j2 k y0 y1 y2 y3 y4 true y6 y7 y8 = some r) (hr : r = true) : False := by
 subst hr
 cases k with
 | zero => simp [mainsheetlaw18_VtimerTells.j2] at h
 | succ k => simp [mainsheetlaw18_VtimerTells.j2] at h
set_option maxHeartbeats 8000000 in
set_option maxRecDepth 100000 in
theorem mainsheetlaw18_VtimerTells.calls (k : Nat) (A0 : Option Addr) (c0 : Nat) (l0 : List (S27)) (r : Bool) (w : World) (hr0 : Kd.C k27 w A0 l0.length l0) (hc0 : l0.length ≤ c0) (hr_ : r = true) (h : mainsheetlaw18_VtimerTells.f k l0 = some r) :
 Calls Try.prog 5 #[.slice A0 l0.length c0] w fun e w' => e = .returned (.bool r) ∧ Below w.heap.size w w' := by
 have hu27 := Try.underlying27
 have hu47 := Try.underlying47
 have HR0 := Aside0.mk hr0
 have HC0 := Aside0.mk hc0
 clear hr0 hc0
 have HB := Aside0.mk (Below.refl w.heap.size w)
 have H : ((mainsheetlaw18_wakes.f k).bind fun t349 => (if t349 = true then (mainsheetlaw18_VtimerTells.l0 k l0 l0 (l0.length : Int) 0) else (some false))) = some r := h
 clear h
 replace H := Option.bind_eq_some_iff.mp H
 obtain ⟨t349, A20, H⟩ := H
 replace H : (if t349 = true then (mainsheetlaw18_VtimerTells.l0 k l0 l0 (l0.length : Int) 0) else (some false)) = some r := H
 have A2 := Aside0.mk A20
 clear A20
 by_cases c3 : t349 = true
 · subst c3
   have H1 : (mainsheetlaw18_VtimerTells.l0 k l0 l0 (l0.length : Int) 0) = some r := by rw [if_pos rfl] at H; exact H
   clear H
   have H := H1
   clear H1
   have H' := Aside0.mk H
   clear H
   go_enter Try.func5, Try.ntmps5
   go_wp2_with (first | ((with_reducible refine gate_callee (f := 7) rfl ?_); refine goesL_ (some 22) rfl rfl Try.func7 (by kernel_rfl) rfl #[] rfl M_ ?_; (with_reducible refine (mainsheetlaw18_wakes.calls k  true _ A2.out).mono ?_); rintro e w4 ⟨rfl, hb⟩; refine ⟨_, rfl, ?_⟩; replace HB := Ls_ HB hb; (try clear hb); (try clear hb2); (try clear hk); (try clear hi)))
   go_loopg [26] k (fun kq v26 w' => ∃ (x26_1 : Int), v26 = .int .i64 x26_1 ∧ Aside0 (mainsheetlaw18_VtimerTells.l0 kq l0 l0 (l0.length : Int) x26_1 = some r) ∧ Aside0 (kq ≤ k) ∧ Aside0 (Below w.heap.size w w'))
   case atStart => exact ⟨(0), S_, H', ⟨Nat.le_refl _⟩, ⟨L_⟩⟩
   case round =>
    clear H'
    try clear p2; try clear c3
    obtain ⟨x26_1, rfl, HA, HK1, HB⟩ := hrel
    cases gk with
    | zero => exact absurd HA.out (by simp [mainsheetlaw18_VtimerTells.l0])
    | succ k1 =>
     have H := HA.out
     clear HA
     simp only [mainsheetlaw18_VtimerTells.l0] at H
     by_cases c5 : x26_1 < (l0.length : Int)
     · rw [if_pos c5] at H
       have c5b0 : decide (x26_1 < (l0.length : Int)) = true := decide_eq_true c5
       clear c5
       by_cases c6 : 0 ≤ x26_1
       · rw [if_pos c6] at H
         have c6b0 : decide (0 ≤ x26_1) = true := decide_eq_true c6
         clear c6
         by_cases c7 : x26_1 < (l0.length : Int)
         · rw [if_pos c7] at H
           have c7b0 : decide (x26_1 < (l0.length : Int)) = true := decide_eq_true c7
           clear c7
           by_cases c8 : x26_1 = 8
           · rw [if_pos c8] at H
             have c8b0 : (x26_1 == 8) = true := beq_iff_eq.mpr c8
             have c8b1 : (x26_1 != 8) = false := bne_eq_false_iff_eq.mpr c8
             clear c8
             obtain rfl := Option.some.inj H
             have p350 : 0 ≤ (x26_1 : Int) := of_decide_eq_true As_
             have q350 : x26_1 < (l0.length : Int) := of_decide_eq_true As_
             obtain ⟨ad350, A350_1, c350_1, A350_2, c350_2, e350, hx350_0, hx350_1, hx350_2, hl350_1, hi350_1, hl350_2, hi350_2⟩ := at_T27 HR0.out x26_1 p350 q350
             cases e350
             replace hx350_0 := Hx_ HB hx350_0
             replace hx350_1 := Hx_ HB hx350_1
             replace hx350_2 := Hx_ HB hx350_2
             have HR350_1 := Aside0.mk hi350_1
             have HC350_1 := Aside0.mk hl350_1
             clear hi350_1 hl350_1
             have HR350_2 := Aside0.mk hi350_2
             have HC350_2 := Aside0.mk hl350_2
             clear hi350_2 hl350_2
             replace p350 := eq_true p350
             replace q350 := eq_true q350
             go_wp2_with (first | ((with_reducible refine gate_dst (N := 4) rfl ?_); refine box_ 4 27 #[.int .i64 0, .slice none 0 0, .slice none 0 0] ?_; intro gb351 hg w9 hbox hb; have BK351 := Aside0.mk (hbox); have GW351 := G_ hg HB; have GE351 := G_ hg HB; replace HB := Ls_ HB hb; clear hb hbox hg; have hcz10_0 : w9.cell? ⟨gb351, 0, none⟩ = some (.int .i64 0) := (blk_cell BK351.out 0).trans rfl; have hcz10_1 : w9.cell? ⟨gb351, 1, none⟩ = some (.slice none 0 0) := (blk_cell BK351.out 1).trans rfl; have hcz10_2 : w9.cell? ⟨gb351, 2, none⟩ = some (.slice none 0 0) := (blk_cell BK351.out 2).trans rfl; have hfz10_0 := blk_frozen BK351.out 0; have hfz10_1 := blk_frozen BK351.out 1; have hfz10_2 := blk_frozen BK351.out 2))
             go_ret
             exact ⟨E_, L_⟩
           · rw [if_neg c8] at H
             have c8b0 : (x26_1 == 8) = false := beq_eq_false_iff_ne.mpr c8
             have c8b1 : (x26_1 != 8) = true := bne_iff_ne.mpr c8
             replace H := Option.bind_eq_some_iff.mp H
             obtain ⟨⟨t352, t353, t356⟩, A110, H⟩ := H
             replace H : (if 0 < (l0.length : Int) then ((mainsheetlaw18_short.f ((rd_T27 l0 0).f0.f0) ((rd_T27 l0 0).f0.f1) ((rd_T27 l0 0).f1)).bind fun bt360 => ((mainsheetref18_Right.f k1 t352 t353 t356).bind fun t369 => ((vtimer_Check.f k1 t352 t353 t356).bind fun t370 => (if ((t370 == 0) != t369) = true then (mainsheetlaw18_VtimerTells.j1 k1 l0 t369 l0 (l0.length : Int) x26_1 true t352 t353 t356) else (if t369 = true then ((vtimer_Same.f k1 t352 t353 t356 bt360.1 bt360.2.1 bt360.2.2).bind fun t371 => ((mainsheetref18_Same.f k1 t352 t353 t356 bt360.1 bt360.2.1 bt360.2.2).bind fun t372 => (if (t371 != t372) = true then (mainsheetlaw18_VtimerTells.j1 k1 l0 t369 l0 (l0.length : Int) x26_1 true t352 t353 t356) else ((mainsheetlaw18_short.f ((rd_T27 l0 x26_1).f0.f0) ((rd_T27 l0 x26_1).f0.f1) ((rd_T27 l0 x26_1).f1)).bind fun bt373 => ((vtimer_Same.f k1 t352 t353 t356 bt373.1 bt373.2.1 bt373.2.2).bind fun t380 => (mainsheetlaw18_VtimerTells.j1 k1 l0 t369 l0 (l0.length : Int) x26_1 (!t380) t352 t353 t356)))))) else (if t370 = 280 then ((vtimer_Same.f k1 t352 t353 t356 bt360.1 bt360.2.1 bt360.2.2).bind fun t381 => ((mainsheetref18_Same.f k1 t352 t353 t356 bt360.1 bt360.2.1 bt360.2.2).bind fun t382 => (if (t381 != t382) = true then (mainsheetlaw18_VtimerTells.j1 k1 l0 t369 l0 (l0.length : Int) x26_1 true t352 t353 t356) else ((mainsheetlaw18_short.f ((rd_T27 l0 x26_1).f0.f0) ((rd_T27 l0 x26_1).f0.f1) ((rd_T27 l0 x26_1).f1)).bind fun bt383 => ((vtimer_Same.f k1 t352 t353 t356 bt383.1 bt383.2.1 bt383.2.2).bind fun t390 => (mainsheetlaw18_VtimerTells.j1 k1 l0 t369 l0 (l0.length : Int) x26_1 (!t390) t352 t353 t356)))))) else (mainsheetlaw18_VtimerTells.j1 k1 l0 t369 l0 (l0.length : Int) x26_1 true t352 t353 t356))))))) else (none)) = some r := H
             have A11 := Aside0.mk A110
             clear A110
             by_cases c12 : 0 < (l0.length : Int)
             · rw [if_pos c12] at H
               have c12b0 : decide (0 < (l0.length : Int)) = true := decide_eq_true c12
               have c12b1 : decide (0 < l0.length) = true := decide_eq_true (by omega)
               clear c12
               replace H := Option.bind_eq_some_iff.mp H
               obtain ⟨⟨t360, t361, t364⟩, A130, H⟩ := H
               replace H : ((mainsheetref18_Right.f k1 t352 t353 t356).bind fun t369 => ((vtimer_Check.f k1 t352 t353 t356).bind fun t370 => (if ((t370 == 0) != t369) = true then (mainsheetlaw18_VtimerTells.j1 k1 l0 t369 l0 (l0.length : Int) x26_1 true t352 t353 t356) else (if t369 = true then ((vtimer_Same.f k1 t352 t353 t356 t360 t361 t364).bind fun t371 => ((mainsheetref18_Same.f k1 t352 t353 t356 t360 t361 t364).bind fun t372 => (if (t371 != t372) = true then (mainsheetlaw18_VtimerTells.j1 k1 l0 t369 l0 (l0.length : Int) x26_1 true t352 t353 t356) else ((mainsheetlaw18_short.f ((rd_T27 l0 x26_1).f0.f0) ((rd_T27 l0 x26_1).f0.f1) ((rd_T27 l0 x26_1).f1)).bind fun bt373 => ((vtimer_Same.f k1 t352 t353 t356 bt373.1 bt373.2.1 bt373.2.2).bind fun t380 => (mainsheetlaw18_VtimerTells.j1 k1 l0 t369 l0 (l0.length : Int) x26_1 (!t380) t352 t353 t356)))))) else (if t370 = 280 then ((vtimer_Same.f k1 t352 t353 t356 t360 t361 t364).bind fun t381 => ((mainsheetref18_Same.f k1 t352 t353 t356 t360 t361 t364).bind fun t382 => (if (t381 != t382) = true then (mainsheetlaw18_VtimerTells.j1 k1 l0 t369 l0 (l0.length : Int) x26_1 true t352 t353 t356) else ((mainsheetlaw18_short.f ((rd_T27 l0 x26_1).f0.f0) ((rd_T27 l0 x26_1).f0.f1) ((rd_T27 l0 x26_1).f1)).bind fun bt383 => ((vtimer_Same.f k1 t352 t353 t356 bt383.1 bt383.2.1 bt383.2.2).bind fun t390 => (mainsheetlaw18_VtimerTells.j1 k1 l0 t369 l0 (l0.length : Int) x26_1 (!t390) t352 t353 t356)))))) else (mainsheetlaw18_VtimerTells.j1 k1 l0 t369 l0 (l0.length : Int) x26_1 true t352 t353 t356)))))) = some r := H
               have A13 := Aside0.mk A130
               clear A130
               replace H := Option.bind_eq_some_iff.mp H
               obtain ⟨t369, A140, H⟩ := H
               replace H : ((vtimer_Check.f k1 t352 t353 t356).bind fun t370 => (if ((t370 == 0) != t369) = true then (mainsheetlaw18_VtimerTells.j1 k1 l0 t369 l0 (l0.length : Int) x26_1 true t352 t353 t356) else (if t369 = true then ((vtimer_Same.f k1 t352 t353 t356 t360 t361 t364).bind fun t371 => ((mainsheetref18_Same.f k1 t352 t353 t356 t360 t361 t364).bind fun t372 => (if (t371 != t372) = true then (mainsheetlaw18_VtimerTells.j1 k1 l0 t369 l0 (l0.length : Int) x26_1 true t352 t353 t356) else ((mainsheetlaw18_short.f ((rd_T27 l0 x26_1).f0.f0) ((rd_T27 l0 x26_1).f0.f1) ((rd_T27 l0 x26_1).f1)).bind fun bt373 => ((vtimer_Same.f k1 t352 t353 t356 bt373.1 bt373.2.1 bt373.2.2).bind fun t380 => (mainsheetlaw18_VtimerTells.j1 k1 l0 t369 l0 (l0.length : Int) x26_1 (!t380) t352 t353 t356)))))) else (if t370 = 280 then ((vtimer_Same.f k1 t352 t353 t356 t360 t361 t364).bind fun t381 => ((mainsheetref18_Same.f k1 t352 t353 t356 t360 t361 t364).bind fun t382 => (if (t381 != t382) = true then (mainsheetlaw18_VtimerTells.j1 k1 l0 t369 l0 (l0.length : Int) x26_1 true t352 t353 t356) else ((mainsheetlaw18_short.f ((rd_T27 l0 x26_1).f0.f0) ((rd_T27 l0 x26_1).f0.f1) ((rd_T27 l0 x26_1).f1)).bind fun bt383 => ((vtimer_Same.f k1 t352 t353 t356 bt383.1 bt383.2.1 bt383.2.2).bind fun t390 => (mainsheetlaw18_VtimerTells.j1 k1 l0 t369 l0 (l0.length : Int) x26_1 (!t390) t352 t353 t356)))))) else (mainsheetlaw18_VtimerTells.j1 k1 l0 t369 l0 (l0.length : Int) x26_1 true t352 t353 t356))))) = some r := H
               have A14 := Aside0.mk A140
               clear A140
               replace H := Option.bind_eq_some_iff.mp H
               obtain ⟨t370, A150, H⟩ := H
               replace H : (if ((t370 == 0) != t369) = true then (mainsheetlaw18_VtimerTells.j1 k1 l0 t369 l0 (l0.length : Int) x26_1 true t352 t353 t356) else (if t369 = true then ((vtimer_Same.f k1 t352 t353 t356 t360 t361 t364).bind fun t371 => ((mainsheetref18_Same.f k1 t352 t353 t356 t360 t361 t364).bind fun t372 => (if (t371 != t372) = true then (mainsheetlaw18_VtimerTells.j1 k1 l0 t369 l0 (l0.length : Int) x26_1 true t352 t353 t356) else ((mainsheetlaw18_short.f ((rd_T27 l0 x26_1).f0.f0) ((rd_T27 l0 x26_1).f0.f1) ((rd_T27 l0 x26_1).f1)).bind fun bt373 => ((vtimer_Same.f k1 t352 t353 t356 bt373.1 bt373.2.1 bt373.2.2).bind fun t380 => (mainsheetlaw18_VtimerTells.j1 k1 l0 t369 l0 (l0.length : Int) x26_1 (!t380) t352 t353 t356)))))) else (if t370 = 280 then ((vtimer_Same.f k1 t352 t353 t356 t360 t361 t364).bind fun t381 => ((mainsheetref18_Same.f k1 t352 t353 t356 t360 t361 t364).bind fun t382 => (if (t381 != t382) = true then (mainsheetlaw18_VtimerTells.j1 k1 l0 t369 l0 (l0.length : Int) x26_1 true t352 t353 t356) else ((mainsheetlaw18_short.f ((rd_T27 l0 x26_1).f0.f0) ((rd_T27 l0 x26_1).f0.f1) ((rd_T27 l0 x26_1).f1)).bind fun bt383 => ((vtimer_Same.f k1 t352 t353 t356 bt383.1 bt383.2.1 bt383.2.2).bind fun t390 => (mainsheetlaw18_VtimerTells.j1 k1 l0 t369 l0 (l0.length : Int) x26_1 (!t390) t352 t353 t356)))))) else (mainsheetlaw18_VtimerTells.j1 k1 l0 t369 l0 (l0.length : Int) x26_1 true t352 t353 t356)))) = some r := H
               have A15 := Aside0.mk A150
               clear A150
               have HC16 := Aside0.mk H
               clear H
               have p350 : 0 ≤ (x26_1 : Int) := of_decide_eq_true As_
               have q350 : x26_1 < (l0.length : Int) := of_decide_eq_true As_
               obtain ⟨ad350, A350_1, c350_1, A350_2, c350_2, e350, hx350_0, hx350_1, hx350_2, hl350_1, hi350_1, hl350_2, hi350_2⟩ := at_T27 HR0.out x26_1 p350 q350
               cases e350
               replace hx350_0 := Hx_ HB hx350_0
               replace hx350_1 := Hx_ HB hx350_1
               replace hx350_2 := Hx_ HB hx350_2
               have HR350_1 := Aside0.mk hi350_1
               have HC350_1 := Aside0.mk hl350_1
               clear hi350_1 hl350_1
               have HR350_2 := Aside0.mk hi350_2
               have HC350_2 := Aside0.mk hl350_2
               clear hi350_2 hl350_2
               replace p350 := eq_true p350
               replace q350 := eq_true q350
               try go_wp2_with (first | ((with_reducible refine gate_dst (N := 4) rfl ?_); refine box_ 4 27 #[.int .i64 0, .slice none 0 0, .slice none 0 0] ?_; intro gb351 hg w17 hbox hb; have BK351 := Aside0.mk (hbox); have GW351 := G_ hg HB; have GE351 := G_ hg HB; replace HB := Ls_ HB hb; clear hb hbox hg; have hcz18_0 : w17.cell? ⟨gb351, 0, none⟩ = some (.int .i64 0) := (blk_cell BK351.out 0).trans rfl; have hcz18_1 : w17.cell? ⟨gb351, 1, none⟩ = some (.slice none 0 0) := (blk_cell BK351.out 1).trans rfl; have hcz18_2 : w17.cell? ⟨gb351, 2, none⟩ = some (.slice none 0 0) := (blk_cell BK351.out 2).trans rfl; have hfz18_0 := blk_frozen BK351.out 0; have hfz18_1 := blk_frozen BK351.out 1; have hfz18_2 := blk_frozen BK351.out 2))
               have n0_ : Aside0 ((((w17.setCell ⟨gb351, 0, none⟩ (.int .i64 ((rd_T27 l0 x26_1).f0.f0))).setCell ⟨gb351, 1, none⟩ (.slice A350_1 ((rd_T27 l0 x26_1).f0.f1).length c350_1)).setCell ⟨gb351, 2, none⟩ (.slice A350_2 ((rd_T27 l0 x26_1).f1).length c350_2)).heap[gb351]? = some (.cells #[.int .i64 ((rd_T27 l0 x26_1).f0.f0), .slice A350_1 ((rd_T27 l0 x26_1).f0.f1).length c350_1, .slice A350_2 ((rd_T27 l0 x26_1).f1).length c350_2] 27 (0, 0))) := ⟨by (with_reducible repeat (first | refine blk_drewN ?_ _ | refine blk_drew ?_ | refine blk_alloc ?_ _)); refine blk_put (cs := #[.int .i64 ((rd_T27 l0 x26_1).f0.f0), .slice A350_1 ((rd_T27 l0 x26_1).f0.f1).length c350_1, .slice none 0 0]) ?_ 2 _ rfl; (with_reducible repeat (first | refine blk_drewN ?_ _ | refine blk_drew ?_ | refine blk_alloc ?_ _)); refine blk_put (cs := #[.int .i64 ((rd_T27 l0 x26_1).f0.f0), .slice none 0 0, .slice none 0 0]) ?_ 1 _ rfl; (with_reducible repeat (first | refine blk_drewN ?_ _ | refine blk_drew ?_ | refine blk_alloc ?_ _)); refine blk_put (cs := #[.int .i64 0, .slice none 0 0, .slice none 0 0]) ?_ 0 _ rfl; (with_reducible repeat (first | refine blk_drewN ?_ _ | refine blk_drew ?_ | refine blk_alloc ?_ _)); exact BK351.out⟩
               have n1_ : Aside0 (Below w.heap.size w (((w17.setCell ⟨gb351, 0, none⟩ (.int .i64 ((rd_T27 l0 x26_1).f0.f0))).setCell ⟨gb351, 1, none⟩ (.slice A350_1 ((rd_T27 l0 x26_1).f0.f1).length c350_1)).setCell ⟨gb351, 2, none⟩ (.slice A350_2 ((rd_T27 l0 x26_1).f1).length c350_2))) := ⟨L_⟩
               (try clear BK351)
               (try clear HB)
               generalize (((w17.setCell ⟨gb351, 0, none⟩ (.int .i64 ((rd_T27 l0 x26_1).f0.f0))).setCell ⟨gb351, 1, none⟩ (.slice A350_1 ((rd_T27 l0 x26_1).f0.f1).length c350_1)).setCell ⟨gb351, 2, none⟩ (.slice A350_2 ((rd_T27 l0 x26_1).f1).length c350_2)) = w19 at n0_ n1_ ⊢
               have BK351 := n0_
               have HB := n1_
               clear n0_ n1_
               have n0_ := Aside0.mk (blk_drew BK351.out)
               have n1_ := Aside0.mk (below_drew1 HB.out)
               clear BK351
               clear HB
               have BK351 := n0_
               have HB := n1_
               clear n0_ n1_
               have p359 : 0 ≤ (0 : Int) := (by omega)
               have q359 : 0 < (l0.length : Int) := of_decide_eq_true As_
               obtain ⟨ad359, A359_1, c359_1, A359_2, c359_2, e359, hx359_0, hx359_1, hx359_2, hl359_1, hi359_1, hl359_2, hi359_2⟩ := at_T27 HR0.out 0 p359 q359
               have hw359_2 := hx359_2
               (try rw [show ((0 : Int)).toNat = 0 from rfl] at hw359_2)
               (try rw [show 0 * 3 = 0 from rfl] at hw359_2)
               (try rw [Addr.add_zero'] at hw359_2)
               have hw359_1 := hx359_1
               (try rw [show ((0 : Int)).toNat = 0 from rfl] at hw359_1)
               (try rw [show 0 * 3 = 0 from rfl] at hw359_1)
               (try rw [Addr.add_zero'] at hw359_1)
               have hw359_0 := hx359_0
               (try rw [show ((0 : Int)).toNat = 0 from rfl] at hw359_0)
               (try rw [show 0 * 3 = 0 from rfl] at hw359_0)
               (try rw [Addr.add_zero'] at hw359_0)
               obtain rfl : ad350 = ad359 := (by injection e359)
               have qi359 : (0 < l0.length) = True := eq_true (by omega)
               (try rw [show ((0 : Int)).toNat = 0 from rfl] at hx359_0)
               (try rw [show 0 * 3 = 0 from rfl] at hx359_0)
               (try rw [Addr.add_zero'] at hx359_0)
               (try rw [show ((0 : Int)).toNat = 0 from rfl] at hx359_1)
               (try rw [show 0 * 3 = 0 from rfl] at hx359_1)
               (try rw [Addr.add_zero'] at hx359_1)
               (try rw [show ((0 : Int)).toNat = 0 from rfl] at hx359_2)
               (try rw [show 0 * 3 = 0 from rfl] at hx359_2)
               (try rw [Addr.add_zero'] at hx359_2)
               replace hx359_0 := Hx_ HB hx359_0
               replace hx359_1 := Hx_ HB hx359_1
               replace hx359_2 := Hx_ HB hx359_2
               have HR359_1 := Aside0.mk hi359_1
               have HC359_1 := Aside0.mk hl359_1
               clear hi359_1 hl359_1
               have HR359_2 := Aside0.mk hi359_2
               have HC359_2 := Aside0.mk hl359_2
               clear hi359_2 hl359_2
               replace p359 := eq_true p359
               replace q359 := eq_true q359
               refine st_ 10 (fun w' => w'.cell? ⟨gb351, 0, none⟩ = some (.int .i64 ((rd_T27 l0 x26_1).f0.f0)) ∧ w'.cell? ⟨gb351, 1, none⟩ = some (.slice A350_1 ((rd_T27 l0 x26_1).f0.f1).length c350_1) ∧ w'.cell? ⟨gb351, 2, none⟩ = some (.slice A350_2 ((rd_T27 l0 x26_1).f1).length c350_2) ∧ w'.cell? ad350 = some (.int .i64 ((rd_T27 l0 0).f0.f0)) ∧ w'.cell? ⟨ad350.block, ad350.off + 1, none⟩ = some (.slice A359_1 ((rd_T27 l0 0).f0.f1).length c359_1) ∧ w'.cell? ⟨ad350.block, ad350.off + 2, none⟩ = some (.slice A359_2 ((rd_T27 l0 0).f1).length c359_2)) [] ⟨(blk_cell BK351.out 0).trans rfl, (blk_cell BK351.out 1).trans rfl, (blk_cell BK351.out 2).trans rfl, ((HB.out.cell (World.block_lt_of_cell? w _ hw359_0)).trans hw359_0), ((HB.out.cell (World.block_lt_of_cell? w _ hw359_1)).trans hw359_1), ((HB.out.cell (World.block_lt_of_cell? w _ hw359_2)).trans hw359_2)⟩ (fun hHeld => ?_); refine with_tabW mainsheetlaw18_VtimerTells.tab7 mainsheetlaw18_VtimerTells.bits7 (fun HT_ HW_ => ?_)
               generalize w19.drew = w20 at BK351 HB HR359_1 HR359_2 hx359_0 hx359_1 hx359_2 hHeld ⊢
               refine pu_ 2 35 HT_ ?_
               refine pu_ 3 36 HT_ ?_
               refine ta_ 0 33 HT_ HW_ rfl rfl hHeld (by rintro w' ⟨s0, s1, s2, s3, s4, s5⟩; go_simp; with_reducible rfl) ?_
               refine ta_ 4 37 HT_ HW_ rfl rfl hHeld (by rintro w' ⟨s0, s1, s2, s3, s4, s5⟩; go_simp; with_reducible rfl) ?_
               refine join_ (σ := Value × Value × Value × Value × Nat × Nat) 2 #[true, true, true, true, true, true, true, true, false, false] (fun s_ => [(34, .agg #[.int .i64 t352, s_.1, s_.2.1]), (38, .agg #[.int .i64 t360, s_.2.2.1, s_.2.2.2.1]), (5, .pointer (some ⟨s_.2.2.2.2.1, 0, none⟩)), (6, .pointer (some ⟨s_.2.2.2.2.2, 0, none⟩))]) (fun s_ w' => (w'.cell? ⟨gb351, 0, none⟩ = some (.int .i64 ((rd_T27 l0 x26_1).f0.f0)) ∧ w'.cell? ⟨gb351, 1, none⟩ = some (.slice A350_1 ((rd_T27 l0 x26_1).f0.f1).length c350_1) ∧ w'.cell? ⟨gb351, 2, none⟩ = some (.slice A350_2 ((rd_T27 l0 x26_1).f1).length c350_2) ∧ w'.cell? ad350 = some (.int .i64 ((rd_T27 l0 0).f0.f0)) ∧ w'.cell? ⟨ad350.block, ad350.off + 1, none⟩ = some (.slice A359_1 ((rd_T27 l0 0).f0.f1).length c359_1) ∧ w'.cell? ⟨ad350.block, ad350.off + 2, none⟩ = some (.slice A359_2 ((rd_T27 l0 0).f1).length c359_2)) ∧ (Kd.R k88 88 w' w.heap.size (fun k_ => some k_ ≠ (s_.2.2.1 : Value).ownBlock) s_.1 t353) ∧ (Kd.R k47 47 w' w.heap.size (fun k_ => some k_ ≠ (s_.2.2.2.1 : Value).ownBlock) s_.2.1 t356) ∧ (Kd.R k88 88 w' w.heap.size (fun k_ => some k_ ≠ (s_.1 : Value).ownBlock) s_.2.2.1 t361) ∧ (Kd.R k47 47 w' w.heap.size (fun k_ => some k_ ≠ (s_.2.1 : Value).ownBlock) s_.2.2.2.1 t364) ∧ (w'.heap[gb351]? = some (.cells #[.int .i64 ((rd_T27 l0 x26_1).f0.f0), .slice A350_1 ((rd_T27 l0 x26_1).f0.f1).length c350_1, .slice A350_2 ((rd_T27 l0 x26_1).f1).length c350_2] 27 (0, 0))) ∧ (w'.heap[s_.2.2.2.2.1]? = some (.cells #[.int .i64 0, .slice none 0 0, .slice none 0 0] 27 (0, 0))) ∧ (w'.heap[s_.2.2.2.2.2]? = some (.cells #[.int .i64 0, .slice none 0 0, .slice none 0 0] 27 (0, 0))) ∧ (w.heap.size ≤ s_.2.2.2.2.1) ∧ (w.heap.size ≤ s_.2.2.2.2.1) ∧ (gb351 ≠ s_.2.2.2.2.1) ∧ (s_.2.2.2.2.1 ≠ gb351) ∧ (s_.2.2.2.2.2 ≠ s_.2.2.2.2.1) ∧ (s_.2.2.2.2.1 ≠ s_.2.2.2.2.2) ∧ (w.heap.size ≤ s_.2.2.2.2.2) ∧ (w.heap.size ≤ s_.2.2.2.2.2) ∧ (gb351 ≠ s_.2.2.2.2.2) ∧ (s_.2.2.2.2.2 ≠ gb351) ∧ (Below w.heap.size w w')) ?_ ?_
               rotate_left
               · intro hJ1_5_6_7
                 exact tells_r7 w w20 gb351 _ _ _ _ _ _ _ ad350 _ _ _ _ _ _ _ t352 t353 t356 t360 t361 t364 HB.out BK351.out hw359_0 hw359_1 hw359_2 HR350_1.out HC350_1.out HR350_2.out HC350_2.out HR359_1.out HC359_1.out HR359_2.out HC359_2.out A11.out A13.out _ (by kernel_rfl) _ _ _ _ _ _ _ _ _ _ _ _ _ _ _ _ _ _ _ _ _ _ _ _ _ _ _ _ _ _ _ _ _ _ _ _ _ _ _ _ _ _ _ _ _ _ _ _ _ _ _ _ _ _ _ _ _ _ _ _ _ _ _ _ _ _ _ _ _ _ _ _ _ _ _ _ _ _ _ _ _ _ _ _ _ _ _ _ _ _ _ _ _ _ _ _ _ _ _ _ _ _ _ _ _ _ _ _ _ _ _ _ _ _ _ _ _ _ _ _ _ _ _ _ _ _ _ _ _ _ _ _ _ _ _ _ _ _ _ _ _ _ _ _ _ _ _ _ _ _ _ _ _ _ _ _ hJ1_5_6_7
               rintro ⟨v354, v357, v362, v365, gb367, gb368⟩ w25 ⟨hS_, h0_, h1_, h2_, h3_, h4_, h5_, h6_, h7_, h8_, h9_, h10_, h11_, h12_, h13_, h14_, h15_, h16_, h17_⟩
               have n0_ : Aside0 (Kd.R k88 88 w25 w.heap.size (fun k_ => some k_ ≠ (v362 : Value).ownBlock) v354 t353) := ⟨h0_⟩
               have n1_ : Aside0 (Kd.R k47 47 w25 w.heap.size (fun k_ => some k_ ≠ (v365 : Value).ownBlock) v357 t356) := ⟨h1_⟩
               have n2_ : Aside0 (Kd.R k88 88 w25 w.heap.size (fun k_ => some k_ ≠ (v354 : Value).ownBlock) v362 t361) := ⟨h2_⟩
               have n3_ : Aside0 (Kd.R k47 47 w25 w.heap.size (fun k_ => some k_ ≠ (v357 : Value).ownBlock) v365 t364) := ⟨h3_⟩
               have n4_ : Aside0 (w25.heap[gb351]? = some (.cells #[.int .i64 ((rd_T27 l0 x26_1).f0.f0), .slice A350_1 ((rd_T27 l0 x26_1).f0.f1).length c350_1, .slice A350_2 ((rd_T27 l0 x26_1).f1).length c350_2] 27 (0, 0))) := ⟨h4_⟩
               have n5_ : Aside0 (w25.heap[gb367]? = some (.cells #[.int .i64 0, .slice none 0 0, .slice none 0 0] 27 (0, 0))) := ⟨h5_⟩
               have n6_ : Aside0 (w25.heap[gb368]? = some (.cells #[.int .i64 0, .slice none 0 0, .slice none 0 0] 27 (0, 0))) := ⟨h6_⟩
               have n7_ : Aside0 (w.heap.size ≤ gb367) := ⟨h7_⟩
               have n8_ : Aside0 (w.heap.size ≤ gb367) := ⟨h8_⟩
               have n9_ : Aside0 (gb351 ≠ gb367) := ⟨h9_⟩
               have n10_ : Aside0 (gb367 ≠ gb351) := ⟨h10_⟩
               have n11_ : Aside0 (gb368 ≠ gb367) := ⟨h11_⟩
               have n12_ : Aside0 (gb367 ≠ gb368) := ⟨h12_⟩
               have n13_ : Aside0 (w.heap.size ≤ gb368) := ⟨h13_⟩
               have n14_ : Aside0 (w.heap.size ≤ gb368) := ⟨h14_⟩
               have n15_ : Aside0 (gb351 ≠ gb368) := ⟨h15_⟩
               have n16_ : Aside0 (gb368 ≠ gb351) := ⟨h16_⟩
               have n17_ : Aside0 (Below w.heap.size w w25) := ⟨h17_⟩
               clear BK351
               clear HB
               clear h0_ h1_ h2_ h3_ h4_ h5_ h6_ h7_ h8_ h9_ h10_ h11_ h12_ h13_ h14_ h15_ h16_ h17_
               have HO355 := n0_
               have HO358 := n1_
               have HO363 := n2_
               have HO366 := n3_
               have BK351 := n4_
               have BK367 := n5_
               have BK368 := n6_
               have GW367 := n7_
               have GE367 := n8_
               have NB351_367 := n9_
               have NB367_351 := n10_
               have NB368_367 := n11_
               have NB367_368 := n12_
               have GW368 := n13_
               have GE368 := n14_
               have NB351_368 := n15_
               have NB368_351 := n16_
               have HB := n17_
               clear n0_ n1_ n2_ n3_ n4_ n5_ n6_ n7_ n8_ n9_ n10_ n11_ n12_ n13_ n14_ n15_ n16_ n17_
               have hHeld : w25.cell? ⟨gb351, 0, none⟩ = some (.int .i64 ((rd_T27 l0 x26_1).f0.f0)) ∧ w25.cell? ⟨gb351, 1, none⟩ = some (.slice A350_1 ((rd_T27 l0 x26_1).f0.f1).length c350_1) ∧ w25.cell? ⟨gb351, 2, none⟩ = some (.slice A350_2 ((rd_T27 l0 x26_1).f1).length c350_2) ∧ w25.cell? ad350 = some (.int .i64 ((rd_T27 l0 0).f0.f0)) ∧ w25.cell? ⟨ad350.block, ad350.off + 1, none⟩ = some (.slice A359_1 ((rd_T27 l0 0).f0.f1).length c359_1) ∧ w25.cell? ⟨ad350.block, ad350.off + 2, none⟩ = some (.slice A359_2 ((rd_T27 l0 0).f1).length c359_2) := hS_
               obtain ⟨Ao27, co27, eo27⟩ := Kd.R_slice HO355.out
               (first | subst eo27 | (injection eo27 with f1_ f2_ f3_; have f4_ := f1_.symm; have f5_ := f3_.symm; clear f1_ f2_ f3_; subst f4_; subst f5_))
               obtain ⟨Ao29, co29, eo29⟩ := Kd.R_slice HO358.out
               (first | subst eo29 | (injection eo29 with f1_ f2_ f3_; have f4_ := f1_.symm; have f5_ := f3_.symm; clear f1_ f2_ f3_; subst f4_; subst f5_))
               obtain ⟨Ao32, co32, eo32⟩ := Kd.R_slice HO363.out
               (first | subst eo32 | (injection eo32 with f1_ f2_ f3_; have f4_ := f1_.symm; have f5_ := f3_.symm; clear f1_ f2_ f3_; subst f4_; subst f5_))
               obtain ⟨Ao34, co34, eo34⟩ := Kd.R_slice HO366.out
               (first | subst eo34 | (injection eo34 with f1_ f2_ f3_; have f4_ := f1_.symm; have f5_ := f3_.symm; clear f1_ f2_ f3_; subst f4_; subst f5_))
               refine norm_ (a' := ?_) ?_ ?_
               rotate_left
               · simp only [putAll, Act.put, List.setIfInBounds_toArray, List.set_cons_zero, List.set_cons_succ]
                 rfl
               refine one_ (i := 8) (N := none) #[true, true, true, true, true, true, true, true, true, false] rfl rfl (one_of HT_.out (by kernel_rfl)) (by decide) (fun K hK => ?_)
               have hs26 : w25.cell? ⟨gb367, 0, none⟩ = some (.int .i64 0) := (blk_cell BK367.out 0).trans rfl
               have hfs26 := blk_frozen BK367.out 0
               have hns26_0 := NB351_367.out
               have hns26_2 := NB368_367.out
               have hms26_0 := NB367_351.out
               have hms26_2 := NB367_368.out
               have hs28 : w25.cell? ⟨gb367, 1, none⟩ = some (.slice none 0 0) := (blk_cell BK367.out 1).trans rfl
               have hfs28 := blk_frozen BK367.out 1
               have hns28_0 := NB351_367.out
               have hns28_2 := NB368_367.out
               have hms28_0 := NB367_351.out
               have hms28_2 := NB367_368.out
               have hs30 : w25.cell? ⟨gb367, 2, none⟩ = some (.slice none 0 0) := (blk_cell BK367.out 2).trans rfl
               have hfs30 := blk_frozen BK367.out 2
               have hns30_0 := NB351_367.out
               have hns30_2 := NB368_367.out
               have hms30_0 := NB367_351.out
               have hms30_2 := NB367_368.out
               refine skip_ (w1 := ?_) (by rfl) rfl ?_ ?_
               rotate_left
               · go_simp
                 rfl
               refine hK.out _ _ ⟨((cell_far (p := ⟨gb367, _, none⟩) NB351_367.out _).trans (((cell_far (p := ⟨gb367, _, none⟩) NB351_367.out _).trans (((cell_far (p := ⟨gb367, _, none⟩) NB351_367.out _).trans (hHeld.1)))))), ((cell_far (p := ⟨gb367, _, none⟩) NB351_367.out _).trans (((cell_far (p := ⟨gb367, _, none⟩) NB351_367.out _).trans (((cell_far (p := ⟨gb367, _, none⟩) NB351_367.out _).trans (hHeld.2.1)))))), ((cell_far (p := ⟨gb367, _, none⟩) NB351_367.out _).trans (((cell_far (p := ⟨gb367, _, none⟩) NB351_367.out _).trans (((cell_far (p := ⟨gb367, _, none⟩) NB351_367.out _).trans (hHeld.2.2.1)))))), ((cell_far (p := ⟨gb367, _, none⟩) (Hn_ hw359_0 GW367) _).trans (((cell_far (p := ⟨gb367, _, none⟩) (Hn_ hw359_0 GW367) _).trans (((cell_far (p := ⟨gb367, _, none⟩) (Hn_ hw359_0 GW367) _).trans (hHeld.2.2.2.1)))))), ((cell_far (p := ⟨gb367, _, none⟩) (Hn_ hw359_1 GW367) _).trans (((cell_far (p := ⟨gb367, _, none⟩) (Hn_ hw359_1 GW367) _).trans (((cell_far (p := ⟨gb367, _, none⟩) (Hn_ hw359_1 GW367) _).trans (hHeld.2.2.2.2.1)))))), ((cell_far (p := ⟨gb367, _, none⟩) (Hn_ hw359_2 GW367) _).trans (((cell_far (p := ⟨gb367, _, none⟩) (Hn_ hw359_2 GW367) _).trans (((cell_far (p := ⟨gb367, _, none⟩) (Hn_ hw359_2 GW367) _).trans (hHeld.2.2.2.2.2))))))⟩ (fun hHeld => ?_)
               clear hK K
               refine one_ (i := 9) (N := none) #[true, true, true, true, true, true, true, true, true, true] rfl rfl (one_of HT_.out (by kernel_rfl)) (by decide) (fun K hK => ?_)
               have hs31 : w25.cell? ⟨gb368, 0, none⟩ = some (.int .i64 0) := (blk_cell BK368.out 0).trans rfl
               have hfs31 := blk_frozen BK368.out 0
               have hns31_0 := NB351_368.out
               have hns31_1 := NB367_368.out
               have hms31_0 := NB368_351.out
               have hms31_1 := NB368_367.out
               have hs33 : w25.cell? ⟨gb368, 1, none⟩ = some (.slice none 0 0) := (blk_cell BK368.out 1).trans rfl
               have hfs33 := blk_frozen BK368.out 1
               have hns33_0 := NB351_368.out
               have hns33_1 := NB367_368.out
               have hms33_0 := NB368_351.out
               have hms33_1 := NB368_367.out
               have hs35 : w25.cell? ⟨gb368, 2, none⟩ = some (.slice none 0 0) := (blk_cell BK368.out 2).trans rfl
               have hfs35 := blk_frozen BK368.out 2
               have hns35_0 := NB351_368.out
               have hns35_1 := NB367_368.out
               have hms35_0 := NB368_351.out
               have hms35_1 := NB368_367.out
               refine skip_ (w1 := ?_) (by rfl) rfl ?_ ?_
               rotate_left
               · go_simp
                 rfl
               refine hK.out _ _ ⟨((cell_far (p := ⟨gb368, _, none⟩) NB351_368.out _).trans (((cell_far (p := ⟨gb368, _, none⟩) NB351_368.out _).trans (((cell_far (p := ⟨gb368, _, none⟩) NB351_368.out _).trans (hHeld.1)))))), ((cell_far (p := ⟨gb368, _, none⟩) NB351_368.out _).trans (((cell_far (p := ⟨gb368, _, none⟩) NB351_368.out _).trans (((cell_far (p := ⟨gb368, _, none⟩) NB351_368.out _).trans (hHeld.2.1)))))), ((cell_far (p := ⟨gb368, _, none⟩) NB351_368.out _).trans (((cell_far (p := ⟨gb368, _, none⟩) NB351_368.out _).trans (((cell_far (p := ⟨gb368, _, none⟩) NB351_368.out _).trans (hHeld.2.2.1)))))), ((cell_far (p := ⟨gb368, _, none⟩) (Hn_ hw359_0 GW368) _).trans (((cell_far (p := ⟨gb368, _, none⟩) (Hn_ hw359_0 GW368) _).trans (((cell_far (p := ⟨gb368, _, none⟩) (Hn_ hw359_0 GW368) _).trans (hHeld.2.2.2.1)))))), ((cell_far (p := ⟨gb368, _, none⟩) (Hn_ hw359_1 GW368) _).trans (((cell_far (p := ⟨gb368, _, none⟩) (Hn_ hw359_1 GW368) _).trans (((cell_far (p := ⟨gb368, _, none⟩) (Hn_ hw359_1 GW368) _).trans (hHeld.2.2.2.2.1)))))), ((cell_far (p := ⟨gb368, _, none⟩) (Hn_ hw359_2 GW368) _).trans (((cell_far (p := ⟨gb368, _, none⟩) (Hn_ hw359_2 GW368) _).trans (((cell_far (p := ⟨gb368, _, none⟩) (Hn_ hw359_2 GW368) _).trans (hHeld.2.2.2.2.2))))))⟩ (fun hHeld => ?_)
               clear hK K
               refine done_ (done_of HT_.out (by kernel_rfl)) ?_
               have hnb36 := NB367_351.out
               have hnc36 := NB351_367.out
               have hnb37 := NB367_368.out
               have hnc37 := NB368_367.out
               have hcz38_0 : w25.cell? ⟨gb367, 0, none⟩ = some (.int .i64 0) := (blk_cell BK367.out 0).trans rfl
               have hcz38_1 : w25.cell? ⟨gb367, 1, none⟩ = some (.slice none 0 0) := (blk_cell BK367.out 1).trans rfl
               have hcz38_2 : w25.cell? ⟨gb367, 2, none⟩ = some (.slice none 0 0) := (blk_cell BK367.out 2).trans rfl
               have hfz38_0 := blk_frozen BK367.out 0
               have hfz38_1 := blk_frozen BK367.out 1
               have hfz38_2 := blk_frozen BK367.out 2
               go_upto_region 10 with (first | ((with_reducible refine gate_callee (f := 16) rfl ?_); refine goesL_ (some 40) rfl rfl Try.func16 (by kernel_rfl) rfl #[.agg #[.int .i64 t352, .slice Ao27 t353.length co27, .slice Ao29 t356.length co29]] rfl M_ ?_; (with_reducible refine (mainsheetref18_Right.calls k1 t352 _ _ t353 _ _ t356 t369 _ ?side1 ?side2 ?side3 ?side4 A14.out).mono ?_); (case side1 => refine (Kd.R_reads' (e := 88) (base := w.heap.size) (ok := fun k_ => some k_ ≠ (.slice Ao32 t361.length co32 : Value).ownBlock) (n := t353.length) (c := co27) ?_).2.2; exact (by (with_reducible repeat (first | apply Kd.R_alloc | apply Kd.R_drewN | apply Kd.R_drew)); exact (Kd.R_mono (Kd.R_mono (Kd.R_far (p := ⟨gb368, 2, none⟩) (Kd.R_far (p := ⟨gb368, 1, none⟩) (Kd.R_far (p := ⟨gb368, 0, none⟩) (Kd.R_far (p := ⟨gb367, 2, none⟩) (Kd.R_far (p := ⟨gb367, 1, none⟩) (Kd.R_far (p := ⟨gb367, 0, none⟩) (Kd.R_types (Kd.R_types HO355.out BK367.out (by decide)) BK368.out (by decide)) (fun _ hk => hk.1.2) (.int .i64 t352)) (fun _ hk => hk.1.2) (.slice Ao27 t353.length co27)) (fun _ hk => hk.1.2) (.slice Ao29 t356.length co29)) (fun _ hk => hk.2) (.int .i64 t360)) (fun _ hk => hk.2) (.slice Ao32 t361.length co32)) (fun _ hk => hk.2) (.slice Ao34 t364.length co34)) (fun _ h_ => h_.1)) (fun _ h_ => h_.1)))); (case side2 => exact (Kd.R_reads' HO355.out).2.1); (case side3 => refine (Kd.R_reads' (e := 47) (base := w.heap.size) (ok := fun k_ => some k_ ≠ (.slice Ao34 t364.length co34 : Value).ownBlock) (n := t356.length) (c := co29) ?_).2.2; exact (by (with_reducible repeat (first | apply Kd.R_alloc | apply Kd.R_drewN | apply Kd.R_drew)); exact (Kd.R_mono (Kd.R_mono (Kd.R_far (p := ⟨gb368, 2, none⟩) (Kd.R_far (p := ⟨gb368, 1, none⟩) (Kd.R_far (p := ⟨gb368, 0, none⟩) (Kd.R_far (p := ⟨gb367, 2, none⟩) (Kd.R_far (p := ⟨gb367, 1, none⟩) (Kd.R_far (p := ⟨gb367, 0, none⟩) (Kd.R_types (Kd.R_types HO358.out BK367.out (by decide)) BK368.out (by decide)) (fun _ hk => hk.1.2) (.int .i64 t352)) (fun _ hk => hk.1.2) (.slice Ao27 t353.length co27)) (fun _ hk => hk.1.2) (.slice Ao29 t356.length co29)) (fun _ hk => hk.2) (.int .i64 t360)) (fun _ hk => hk.2) (.slice Ao32 t361.length co32)) (fun _ hk => hk.2) (.slice Ao34 t364.length co34)) (fun _ h_ => h_.1)) (fun _ h_ => h_.1)))); (case side4 => exact (Kd.R_reads' HO358.out).2.1); rintro e w39 ⟨rfl, hb⟩; refine ⟨_, rfl, ?_⟩; replace HO355 := Aside0.mk (Kd.R_below (by (with_reducible repeat (first | apply Kd.R_alloc | apply Kd.R_drewN | apply Kd.R_drew)); exact (Kd.R_mono (Kd.R_mono (Kd.R_far (p := ⟨gb368, 2, none⟩) (Kd.R_far (p := ⟨gb368, 1, none⟩) (Kd.R_far (p := ⟨gb368, 0, none⟩) (Kd.R_far (p := ⟨gb367, 2, none⟩) (Kd.R_far (p := ⟨gb367, 1, none⟩) (Kd.R_far (p := ⟨gb367, 0, none⟩) (Kd.R_types (Kd.R_types HO355.out BK367.out (by decide)) BK368.out (by decide)) (fun _ hk => hk.1.2) (.int .i64 t352)) (fun _ hk => hk.1.2) (.slice Ao27 t353.length co27)) (fun _ hk => hk.1.2) (.slice Ao29 t356.length co29)) (fun _ hk => hk.2) (.int .i64 t360)) (fun _ hk => hk.2) (.slice Ao32 t361.length co32)) (fun _ hk => hk.2) (.slice Ao34 t364.length co34)) (fun _ h_ => h_.1)) (fun _ h_ => h_.1))) hb); replace HO358 := Aside0.mk (Kd.R_below (by (with_reducible repeat (first | apply Kd.R_alloc | apply Kd.R_drewN | apply Kd.R_drew)); exact (Kd.R_mono (Kd.R_mono (Kd.R_far (p := ⟨gb368, 2, none⟩) (Kd.R_far (p := ⟨gb368, 1, none⟩) (Kd.R_far (p := ⟨gb368, 0, none⟩) (Kd.R_far (p := ⟨gb367, 2, none⟩) (Kd.R_far (p := ⟨gb367, 1, none⟩) (Kd.R_far (p := ⟨gb367, 0, none⟩) (Kd.R_types (Kd.R_types HO358.out BK367.out (by decide)) BK368.out (by decide)) (fun _ hk => hk.1.2) (.int .i64 t352)) (fun _ hk => hk.1.2) (.slice Ao27 t353.length co27)) (fun _ hk => hk.1.2) (.slice Ao29 t356.length co29)) (fun _ hk => hk.2) (.int .i64 t360)) (fun _ hk => hk.2) (.slice Ao32 t361.length co32)) (fun _ hk => hk.2) (.slice Ao34 t364.length co34)) (fun _ h_ => h_.1)) (fun _ h_ => h_.1))) hb); replace HO363 := Aside0.mk (Kd.R_below (by (with_reducible repeat (first | apply Kd.R_alloc | apply Kd.R_drewN | apply Kd.R_drew)); exact (Kd.R_mono (Kd.R_mono (Kd.R_far (p := ⟨gb368, 2, none⟩) (Kd.R_far (p := ⟨gb368, 1, none⟩) (Kd.R_far (p := ⟨gb368, 0, none⟩) (Kd.R_far (p := ⟨gb367, 2, none⟩) (Kd.R_far (p := ⟨gb367, 1, none⟩) (Kd.R_far (p := ⟨gb367, 0, none⟩) (Kd.R_types (Kd.R_types HO363.out BK367.out (by decide)) BK368.out (by decide)) (fun _ hk => hk.1.2) (.int .i64 t352)) (fun _ hk => hk.1.2) (.slice Ao27 t353.length co27)) (fun _ hk => hk.1.2) (.slice Ao29 t356.length co29)) (fun _ hk => hk.2) (.int .i64 t360)) (fun _ hk => hk.2) (.slice Ao32 t361.length co32)) (fun _ hk => hk.2) (.slice Ao34 t364.length co34)) (fun _ h_ => h_.1)) (fun _ h_ => h_.1))) hb); replace HO366 := Aside0.mk (Kd.R_below (by (with_reducible repeat (first | apply Kd.R_alloc | apply Kd.R_drewN | apply Kd.R_drew)); exact (Kd.R_mono (Kd.R_mono (Kd.R_far (p := ⟨gb368, 2, none⟩) (Kd.R_far (p := ⟨gb368, 1, none⟩) (Kd.R_far (p := ⟨gb368, 0, none⟩) (Kd.R_far (p := ⟨gb367, 2, none⟩) (Kd.R_far (p := ⟨gb367, 1, none⟩) (Kd.R_far (p := ⟨gb367, 0, none⟩) (Kd.R_types (Kd.R_types HO366.out BK367.out (by decide)) BK368.out (by decide)) (fun _ hk => hk.1.2) (.int .i64 t352)) (fun _ hk => hk.1.2) (.slice Ao27 t353.length co27)) (fun _ hk => hk.1.2) (.slice Ao29 t356.length co29)) (fun _ hk => hk.2) (.int .i64 t360)) (fun _ hk => hk.2) (.slice Ao32 t361.length co32)) (fun _ hk => hk.2) (.slice Ao34 t364.length co34)) (fun _ h_ => h_.1)) (fun _ h_ => h_.1))) hb); replace BK351 := Aside0.mk (blk_below (Bz_ BK351) hb); replace BK367 := Aside0.mk (blk_below (g := gb367) (o := .cells #[.int .i64 t352, .slice Ao27 t353.length co27, .slice Ao29 t356.length co29] 27 (0, 0)) (by (with_reducible repeat (first | refine blk_drewN ?_ _ | refine blk_drew ?_ | refine blk_alloc ?_ _)); refine blk_far ?_ NB367_368.out _; (with_reducible repeat (first | refine blk_drewN ?_ _ | refine blk_drew ?_ | refine blk_alloc ?_ _)); refine blk_far ?_ NB367_368.out _; (with_reducible repeat (first | refine blk_drewN ?_ _ | refine blk_drew ?_ | refine blk_alloc ?_ _)); refine blk_far ?_ NB367_368.out _; (with_reducible repeat (first | refine blk_drewN ?_ _ | refine blk_drew ?_ | refine blk_alloc ?_ _)); refine blk_put (cs := #[.int .i64 t352, .slice Ao27 t353.length co27, .slice none 0 0]) ?_ 2 _ rfl; (with_reducible repeat (first | refine blk_drewN ?_ _ | refine blk_drew ?_ | refine blk_alloc ?_ _)); refine blk_put (cs := #[.int .i64 t352, .slice none 0 0, .slice none 0 0]) ?_ 1 _ rfl; (with_reducible repeat (first | refine blk_drewN ?_ _ | refine blk_drew ?_ | refine blk_alloc ?_ _)); refine blk_put (cs := #[.int .i64 0, .slice none 0 0, .slice none 0 0]) ?_ 0 _ rfl; (with_reducible repeat (first | refine blk_drewN ?_ _ | refine blk_drew ?_ | refine blk_alloc ?_ _)); exact BK367.out) hb); replace BK368 := Aside0.mk (blk_below (g := gb368) (o := .cells #[.int .i64 t360, .slice Ao32 t361.length co32, .slice Ao34 t364.length co34] 27 (0, 0)) (by (with_reducible repeat (first | refine blk_drewN ?_ _ | refine blk_drew ?_ | refine blk_alloc ?_ _)); refine blk_put (cs := #[.int .i64 t360, .slice Ao32 t361.length co32, .slice none 0 0]) ?_ 2 _ rfl; (with_reducible repeat (first | refine blk_drewN ?_ _ | refine blk_drew ?_ | refine blk_alloc ?_ _)); refine blk_put (cs := #[.int .i64 t360, .slice none 0 0, .slice none 0 0]) ?_ 1 _ rfl; (with_reducible repeat (first | refine blk_drewN ?_ _ | refine blk_drew ?_ | refine blk_alloc ?_ _)); refine blk_put (cs := #[.int .i64 0, .slice none 0 0, .slice none 0 0]) ?_ 0 _ rfl; (with_reducible repeat (first | refine blk_drewN ?_ _ | refine blk_drew ?_ | refine blk_alloc ?_ _)); refine blk_far ?_ NB368_367.out _; (with_reducible repeat (first | refine blk_drewN ?_ _ | refine blk_drew ?_ | refine blk_alloc ?_ _)); refine blk_far ?_ NB368_367.out _; (with_reducible repeat (first | refine blk_drewN ?_ _ | refine blk_drew ?_ | refine blk_alloc ?_ _)); refine blk_far ?_ NB368_367.out _; (with_reducible repeat (first | refine blk_drewN ?_ _ | refine blk_drew ?_ | refine blk_alloc ?_ _)); exact BK368.out) hb); replace HB := Ls_ HB hb; (try clear hb); (try clear hb2); (try clear hk); (try clear hi); have hcz40_0 : w39.cell? ⟨gb367, 0, none⟩ = some (.int .i64 t352) := (blk_cell BK367.out 0).trans rfl; have hcz40_1 : w39.cell? ⟨gb367, 1, none⟩ = some (.slice Ao27 t353.length co27) := (blk_cell BK367.out 1).trans rfl; have hcz40_2 : w39.cell? ⟨gb367, 2, none⟩ = some (.slice Ao29 t356.length co29) := (blk_cell BK367.out 2).trans rfl; have hfz40_0 := blk_frozen BK367.out 0; have hfz40_1 := blk_frozen BK367.out 1; have hfz40_2 := blk_frozen BK367.out 2) | ((with_reducible refine gate_callee (f := 9) rfl ?_); refine goesL_ (some 42) rfl rfl Try.func9 (by kernel_rfl) rfl #[.agg #[.int .i64 t352, .slice Ao27 t353.length co27, .slice Ao29 t356.length co29]] rfl M_ ?_; (with_reducible refine (vtimer_Check.calls k1 t352 _ _ t353 _ _ t356 t370 _ ?side1 ?side2 ?side3 ?side4 A15.out).mono ?_); (case side1 => exact Rs_ HO355); (case side2 => exact (Kd.R_reads' HO355.out).2.1); (case side3 => exact Rs_ HO358); (case side4 => exact (Kd.R_reads' HO358.out).2.1); rintro e w41 ⟨rfl, hb⟩; refine ⟨_, rfl, ?_⟩; replace HO355 := Rb_ HO355 hb; replace HO358 := Rb_ HO358 hb; replace HO363 := Rb_ HO363 hb; replace HO366 := Rb_ HO366 hb; replace BK351 := Bb_ BK351 hb; replace BK367 := Bb_ BK367 hb; replace BK368 := Bb_ BK368 hb; replace HB := Ls_ HB hb; (try clear hb); (try clear hb2); (try clear hk); (try clear hi)))
               (try simp only [Act.put, List.setIfInBounds_toArray, List.set_cons_zero, List.set_cons_succ])
               go_cut [70] (fun v70 wc => ∃ (kq : Nat) (x70_15 : Bool), v70 = .bool x70_15 ∧ Aside0 (mainsheetlaw18_VtimerTells.j1 kq l0 t369 l0 (l0.length : Int) x26_1 x70_15 t352 t353 t356 = some r) ∧ Aside0 (kq ≤ k1) ∧ Aside0 (Kd.R k88 88 wc w.heap.size (fun k_ => some k_ ≠ ((.slice Ao32 t361.length co32) : Value).ownBlock) (.slice Ao27 t353.length co27) t353) ∧ Aside0 (Kd.R k47 47 wc w.heap.size (fun k_ => some k_ ≠ ((.slice Ao34 t364.length co34) : Value).ownBlock) (.slice Ao29 t356.length co29) t356) ∧ Aside0 (Kd.R k88 88 wc w.heap.size (fun k_ => some k_ ≠ ((.slice Ao27 t353.length co27) : Value).ownBlock) (.slice Ao32 t361.length co32) t361) ∧ Aside0 (Kd.R k47 47 wc w.heap.size (fun k_ => some k_ ≠ ((.slice Ao29 t356.length co29) : Value).ownBlock) (.slice Ao34 t364.length co34) t364) ∧ Aside0 (wc.heap[gb351]? = some (.cells #[.int .i64 ((rd_T27 l0 x26_1).f0.f0), (.slice A350_1 ((rd_T27 l0 x26_1).f0.f1).length c350_1), (.slice A350_2 ((rd_T27 l0 x26_1).f1).length c350_2)] 27 (0, 0))) ∧ Aside0 (wc.heap[gb367]? = some (.cells #[.int .i64 t352, (.slice Ao27 t353.length co27), (.slice Ao29 t356.length co29)] 27 (0, 0))) ∧ Aside0 (wc.heap[gb368]? = some (.cells #[.int .i64 t360, (.slice Ao32 t361.length co32), (.slice Ao34 t364.length co34)] 27 (0, 0))) ∧ Aside0 (Below w.heap.size w wc))
               case first =>
                have H := HC16.out
                clear HC16
                by_cases c42 : ((t370 == 0) != t369) = true
                · rw [if_pos c42] at H
                  have c42b0 : ((t370 == 0) != t369) = true := c42
                  (try (have c42b1 : decide ((t370 == 0) = t369) = false := by simpa using c42))
                  (try (have c42b2 : ((t370 == 0) == t369) = false := by simpa using c42))
                  (try (have c42b3 : ¬ ((t370 == 0) = t369) := by simpa using c42))
                  clear c42
                  (first | rw [c42b0] | (simp only [i64_w, i32_w]; rw [c42b0]) | skip)
                  exact (mainsheetlaw18_VtimerTells.j1_true H hr_).elim
                · rw [if_neg c42] at H
                  have c42b0 : ((t370 == 0) != t369) = false := by simpa using c42
                  (try (have c42b1 : decide ((t370 == 0) = t369) = true := by simpa using c42))
                  (try (have c42b2 : ((t370 == 0) == t369) = true := by simpa using c42))
                  clear c42
                  (first | rw [c42b0] | (simp only [i64_w, i32_w]; rw [c42b0]) | skip)
                  by_cases c44 : t369 = true
                  · subst c44
                    have H1 : ((vtimer_Same.f k1 t352 t353 t356 t360 t361 t364).bind fun t371 => ((mainsheetref18_Same.f k1 t352 t353 t356 t360 t361 t364).bind fun t372 => (if (t371 != t372) = true then (mainsheetlaw18_VtimerTells.j1 k1 l0 true l0 (l0.length : Int) x26_1 true t352 t353 t356) else ((mainsheetlaw18_short.f ((rd_T27 l0 x26_1).f0.f0) ((rd_T27 l0 x26_1).f0.f1) ((rd_T27 l0 x26_1).f1)).bind fun bt373 => ((vtimer_Same.f k1 t352 t353 t356 bt373.1 bt373.2.1 bt373.2.2).bind fun t380 => (mainsheetlaw18_VtimerTells.j1 k1 l0 true l0 (l0.length : Int) x26_1 (!t380) t352 t353 t356)))))) = some r := by rw [if_pos rfl] at H; exact H
                    clear H
                    have H := H1
                    clear H1
                    replace H := Option.bind_eq_some_iff.mp H
                    obtain ⟨t371, A450, H⟩ := H
                    replace H : ((mainsheetref18_Same.f k1 t352 t353 t356 t360 t361 t364).bind fun t372 => (if (t371 != t372) = true then (mainsheetlaw18_VtimerTells.j1 k1 l0 true l0 (l0.length : Int) x26_1 true t352 t353 t356) else ((mainsheetlaw18_short.f ((rd_T27 l0 x26_1).f0.f0) ((rd_T27 l0 x26_1).f0.f1) ((rd_T27 l0 x26_1).f1)).bind fun bt373 => ((vtimer_Same.f k1 t352 t353 t356 bt373.1 bt373.2.1 bt373.2.2).bind fun t380 => (mainsheetlaw18_VtimerTells.j1 k1 l0 true l0 (l0.length : Int) x26_1 (!t380) t352 t353 t356))))) = some r := H
                    have A45 := Aside0.mk A450
                    clear A450
                    replace H := Option.bind_eq_some_iff.mp H
                    obtain ⟨t372, A460, H⟩ := H
                    replace H : (if (t371 != t372) = true then (mainsheetlaw18_VtimerTells.j1 k1 l0 true l0 (l0.length : Int) x26_1 true t352 t353 t356) else ((mainsheetlaw18_short.f ((rd_T27 l0 x26_1).f0.f0) ((rd_T27 l0 x26_1).f0.f1) ((rd_T27 l0 x26_1).f1)).bind fun bt373 => ((vtimer_Same.f k1 t352 t353 t356 bt373.1 bt373.2.1 bt373.2.2).bind fun t380 => (mainsheetlaw18_VtimerTells.j1 k1 l0 true l0 (l0.length : Int) x26_1 (!t380) t352 t353 t356)))) = some r := H
                    have A46 := Aside0.mk A460
                    clear A460
                    by_cases c47 : (t371 != t372) = true
                    · rw [if_pos c47] at H
                      have c47b0 : (t371 != t372) = true := c47
                      (try (have c47b1 : decide (t371 = t372) = false := by simpa using c47))
                      (try (have c47b2 : (t371 == t372) = false := by simpa using c47))
                      (try (have c47b3 : ¬ (t371 = t372) := by simpa using c47))
                      clear c47
                      exact (mainsheetlaw18_VtimerTells.j1_true H hr_).elim
                    · rw [if_neg c47] at H
                      have c47b0 : (t371 != t372) = false := by simpa using c47
                      (try (have c47b1 : decide (t371 = t372) = true := by simpa using c47))
                      (try (have c47b2 : (t371 == t372) = true := by simpa using c47))
                      clear c47
                      replace H := Option.bind_eq_some_iff.mp H
                      obtain ⟨⟨t373, t374, t377⟩, A510, H⟩ := H
                      replace H : ((vtimer_Same.f k1 t352 t353 t356 t373 t374 t377).bind fun t380 => (mainsheetlaw18_VtimerTells.j1 k1 l0 true l0 (l0.length : Int) x26_1 (!t380) t352 t353 t356)) = some r := H
                      have A51 := Aside0.mk A510
                      clear A510
                      replace H := Option.bind_eq_some_iff.mp H
                      obtain ⟨t380, A520, H⟩ := H
                      replace H : (mainsheetlaw18_VtimerTells.j1 k1 l0 true l0 (l0.length : Int) x26_1 (!t380) t352 t353 t356) = some r := H
                      have A52 := Aside0.mk A520
                      clear A520
                      have H' := Aside0.mk H
                      clear H
                      try go_wp2
                      have n0_ := Aside0.mk (Kd.R_drew HO355.out)
                      have n1_ := Aside0.mk (Kd.R_drew HO358.out)
                      have n2_ := Aside0.mk (Kd.R_drew HO363.out)
                      have n3_ := Aside0.mk (Kd.R_drew HO366.out)
                      have n4_ := Aside0.mk (blk_drew BK351.out)
                      have n5_ := Aside0.mk (blk_drew BK367.out)
                      have n6_ := Aside0.mk (blk_drew BK368.out)
                      have n7_ := Aside0.mk (below_drew1 HB.out)
                      clear HO355
                      clear HO358
                      clear HO363
                      clear HO366
                      clear BK351
                      clear BK367
                      clear BK368
                      clear HB
                      have HO355 := n0_
                      have HO358 := n1_
                      have HO363 := n2_
                      have HO366 := n3_
                      have BK351 := n4_
                      have BK367 := n5_
                      have BK368 := n6_
                      have HB := n7_
                      clear n0_ n1_ n2_ n3_ n4_ n5_ n6_ n7_
                      refine st_ 28 (fun w' => w'.cell? ⟨gb367, 0, none⟩ = some (.int .i64 t352) ∧ w'.cell? ⟨gb367, 1, none⟩ = some (.slice Ao27 t353.length co27) ∧ w'.cell? ⟨gb367, 2, none⟩ = some (.slice Ao29 t356.length co29) ∧ w'.cell? ⟨gb368, 0, none⟩ = some (.int .i64 t360) ∧ w'.cell? ⟨gb368, 1, none⟩ = some (.slice Ao32 t361.length co32) ∧ w'.cell? ⟨gb368, 2, none⟩ = some (.slice Ao34 t364.length co34) ∧ w'.cell? ⟨gb351, 0, none⟩ = some (.int .i64 ((rd_T27 l0 x26_1).f0.f0)) ∧ w'.cell? ⟨gb351, 1, none⟩ = some (.slice A350_1 ((rd_T27 l0 x26_1).f0.f1).length c350_1) ∧ w'.cell? ⟨gb351, 2, none⟩ = some (.slice A350_2 ((rd_T27 l0 x26_1).f1).length c350_2)) [] ⟨(blk_cell BK367.out 0).trans rfl, (blk_cell BK367.out 1).trans rfl, (blk_cell BK367.out 2).trans rfl, (blk_cell BK368.out 0).trans rfl, (blk_cell BK368.out 1).trans rfl, (blk_cell BK368.out 2).trans rfl, (blk_cell BK351.out 0).trans rfl, (blk_cell BK351.out 1).trans rfl, (blk_cell BK351.out 2).trans rfl⟩ (fun hHeld => ?_); refine with_tabW mainsheetlaw18_VtimerTells.tab10 mainsheetlaw18_VtimerTells.bits10 (fun HT_ HW_ => ?_)
                      generalize w41.drew = w53 at HO355 HO358 HO363 HO366 BK351 BK367 BK368 HB hHeld ⊢
                      refine pu_ 0 43 HT_ ?_
                      refine pu_ 1 44 HT_ ?_
                      refine pu_ 2 45 HT_ ?_
                      refine pu_ 3 46 HT_ ?_
                      refine pu_ 4 47 HT_ ?_
                      refine pu_ 5 48 HT_ ?_
                      refine pu_ 6 49 HT_ ?_
                      refine pu_ 7 50 HT_ ?_
                      refine of_ 8 51 HT_ ?_
                      refine of_ 9 52 HT_ ?_
                      refine pu_ 10 53 HT_ ?_
                      refine pu_ 11 54 HT_ ?_
                      refine pu_ 12 55 HT_ ?_
                      refine ta_ 13 56 HT_ HW_ rfl rfl hHeld (by rintro w' ⟨s0, s1, s2, s3, s4, s5, s6, s7, s8⟩; go_simp; with_reducible rfl) ?_
                      refine ta_ 14 57 HT_ HW_ rfl rfl hHeld (by rintro w' ⟨s0, s1, s2, s3, s4, s5, s6, s7, s8⟩; go_simp; with_reducible rfl) ?_
                      refine ta_ 16 59 HT_ HW_ rfl rfl hHeld (by rintro w' ⟨s0, s1, s2, s3, s4, s5, s6, s7, s8⟩; go_simp; with_reducible rfl) ?_
                      refine ta_ 17 60 HT_ HW_ rfl rfl hHeld (by rintro w' ⟨s0, s1, s2, s3, s4, s5, s6, s7, s8⟩; go_simp; with_reducible rfl) ?_
                      refine on_ 15 58 HT_ rfl rfl (fun K hK => ?_)
                      refine goes_ Try.func11 (by kernel_rfl) rfl #[.agg #[.int .i64 t352, .slice Ao27 t353.length co27, .slice Ao29 t356.length co29], .agg #[.int .i64 t360, .slice Ao32 t361.length co32, .slice Ao34 t364.length co34]] (by rfl) rfl rfl M_ ?_
                      with_reducible refine (vtimer_Same.calls k1 t352 _ _ t353 _ _ t356 t360 _ _ t361 _ _ t364 t371 _ ?side1 ?side2 ?side3 ?side4 ?side5 ?side6 ?side7 ?side8 A45.out).mono ?_
                      (case side1 => exact Rs_ HO355)
                      (case side2 => exact (Kd.R_reads' HO355.out).2.1)
                      (case side3 => exact Rs_ HO358)
                      (case side4 => exact (Kd.R_reads' HO358.out).2.1)
                      (case side5 => exact Rs_ HO363)
                      (case side6 => exact (Kd.R_reads' HO363.out).2.1)
                      (case side7 => exact Rs_ HO366)
                      (case side8 => exact (Kd.R_reads' HO366.out).2.1)
                      rintro e w54 ⟨rfl, hb⟩
                      refine ⟨_, rfl, ?_⟩
                      have n0_ := Rb_ HO355 hb
                      have n1_ := Rb_ HO358 hb
                      have n2_ := Rb_ HO363 hb
                      have n3_ := Rb_ HO366 hb
                      have n4_ := Bb_ BK351 hb
                      have n5_ := Bb_ BK367 hb
                      have n6_ := Bb_ BK368 hb
                      have n7_ := Ls_ HB hb
                      clear HO355
                      clear HO358
                      clear HO363
                      clear HO366
                      clear BK351
                      clear BK367
                      clear BK368
                      clear HB
                      have HO355 := n0_
                      have HO358 := n1_
                      have HO363 := n2_
                      have HO366 := n3_
                      have BK351 := n4_
                      have BK367 := n5_
                      have BK368 := n6_
                      have HB := n7_
                      clear n0_ n1_ n2_ n3_ n4_ n5_ n6_ n7_
                      (try clear hb)
                      (try clear hb2)
                      (try clear hk)
                      (try clear hi)
                      refine hK.out _ _ ⟨(blk_cell BK367.out 0).trans rfl, (blk_cell BK367.out 1).trans rfl, (blk_cell BK367.out 2).trans rfl, (blk_cell BK368.out 0).trans rfl, (blk_cell BK368.out 1).trans rfl, (blk_cell BK368.out 2).trans rfl, (blk_cell BK351.out 0).trans rfl, (blk_cell BK351.out 1).trans rfl, (blk_cell BK351.out 2).trans rfl⟩ (fun hHeld => ?_)
                      clear hK K
                      refine nm_ 58 ?_
                      refine on_ 18 61 HT_ rfl rfl (fun K hK => ?_)
                      refine goes_ Try.func17 (by kernel_rfl) rfl #[.agg #[.int .i64 t352, .slice Ao27 t353.length co27, .slice Ao29 t356.length co29], .agg #[.int .i64 t360, .slice Ao32 t361.length co32, .slice Ao34 t364.length co34]] (by rfl) rfl rfl M_ ?_
                      with_reducible refine (mainsheetref18_Same.calls k1 t352 _ _ t353 _ _ t356 t360 _ _ t361 _ _ t364 t372 _ ?side1 ?side2 ?side3 ?side4 ?side5 ?side6 ?side7 ?side8 A46.out).mono ?_
                      (case side1 => exact Rs_ HO355)
                      (case side2 => exact (Kd.R_reads' HO355.out).2.1)
                      (case side3 => exact Rs_ HO358)
                      (case side4 => exact (Kd.R_reads' HO358.out).2.1)
                      (case side5 => exact Rs_ HO363)
                      (case side6 => exact (Kd.R_reads' HO363.out).2.1)
                      (case side7 => exact Rs_ HO366)
                      (case side8 => exact (Kd.R_reads' HO366.out).2.1)
                      rintro e w55 ⟨rfl, hb⟩
                      refine ⟨_, rfl, ?_⟩
                      have n0_ := Rb_ HO355 hb
                      have n1_ := Rb_ HO358 hb
                      have n2_ := Rb_ HO363 hb
                      have n3_ := Rb_ HO366 hb
                      have n4_ := Bb_ BK351 hb
                      have n5_ := Bb_ BK367 hb
                      have n6_ := Bb_ BK368 hb
                      have n7_ := Ls_ HB hb
                      clear HO355
                      clear HO358
                      clear HO363
                      clear HO366
                      clear BK351
                      clear BK367
                      clear BK368
                      clear HB
                      have HO355 := n0_
                      have HO358 := n1_
                      have HO363 := n2_
                      have HO366 := n3_
                      have BK351 := n4_
                      have BK367 := n5_
                      have BK368 := n6_
                      have HB := n7_
                      clear n0_ n1_ n2_ n3_ n4_ n5_ n6_ n7_
                      (try clear hb)
                      (try clear hb2)
                      (try clear hk)
                      (try clear hi)
                      refine hK.out _ _ ⟨(blk_cell BK367.out 0).trans rfl, (blk_cell BK367.out 1).trans rfl, (blk_cell BK367.out 2).trans rfl, (blk_cell BK368.out 0).trans rfl, (blk_cell BK368.out 1).trans rfl, (blk_cell BK368.out 2).trans rfl, (blk_cell BK351.out 0).trans rfl, (blk_cell BK351.out 1).trans rfl, (blk_cell BK351.out 2).trans rfl⟩ (fun hHeld => ?_)
                      clear hK K
                      refine nm_ 61 ?_
                      refine pu_ 19 62 HT_ ?_
                      refine pu_ 20 63 HT_ ?_
                      refine pu_ 21 64 HT_ ?_
                      refine ta_ 22 65 HT_ HW_ rfl rfl hHeld (by rintro w' ⟨s0, s1, s2, s3, s4, s5, s6, s7, s8⟩; go_simp; with_reducible rfl) ?_
                      refine ta_ 23 66 HT_ HW_ rfl rfl hHeld (by rintro w' ⟨s0, s1, s2, s3, s4, s5, s6, s7, s8⟩; go_simp; with_reducible rfl) ?_
                      refine on_ 24 67 HT_ rfl rfl (fun K hK => ?_)
                      refine goes_ Try.func8 (by kernel_rfl) rfl #[.agg #[.int .i64 ((rd_T27 l0 x26_1).f0.f0), .slice A350_1 ((rd_T27 l0 x26_1).f0.f1).length c350_1, .slice A350_2 ((rd_T27 l0 x26_1).f1).length c350_2]] (by rfl) rfl rfl M_ ?_
                      with_reducible refine (mainsheetlaw18_short.calls ((rd_T27 l0 x26_1).f0.f0) _ _ ((rd_T27 l0 x26_1).f0.f1) _ _ ((rd_T27 l0 x26_1).f1) t373 t374 t377 _ ?side1 ?side2 ?side3 ?side4 A51.out).mono ?_
                      (case side1 => exact C_ HR350_1)
                      (case side2 => exact HC350_1.out)
                      (case side3 => exact C_ HR350_2)
                      (case side4 => exact HC350_2.out)
                      rintro e w56 ⟨v375, v378, rfl, ho0, ho1, hb⟩
                      refine ⟨_, rfl, ?_⟩
                      have n0_ := Aside0.mk (Kd.R_elder' (R_ HO355) (Kd.R_base ho0) hb)
                      have n1_ := Aside0.mk (Kd.R_elder' (R_ HO358) (Kd.R_base ho1) hb)
                      have n2_ := Aside0.mk (Kd.R_elder' (R_ HO363) (Kd.R_base ho0) hb)
                      have n3_ := Aside0.mk (Kd.R_elder' (R_ HO366) (Kd.R_base ho1) hb)
                      have n4_ := Aside0.mk (Kd.R_lower (Kd.R_new' (Kd.R_new' ho0 (Kd.R_lt (R_ HO355))) (Kd.R_lt (R_ HO363))) (below_size L_))
                      have n5_ := Aside0.mk (Kd.R_lower (Kd.R_new' (Kd.R_new' ho1 (Kd.R_lt (R_ HO358))) (Kd.R_lt (R_ HO366))) (below_size L_))
                      have n6_ := Bb_ BK351 hb
                      have n7_ := Bb_ BK367 hb
                      have n8_ := Bb_ BK368 hb
                      have n9_ := Ls_ HB hb
                      clear HO355
                      clear HO358
                      clear HO363
                      clear HO366
                      clear BK351
                      clear BK367
                      clear BK368
                      clear HB
                      have HO355 := n0_
                      have HO358 := n1_
                      have HO363 := n2_
                      have HO366 := n3_
                      have HO376 := n4_
                      have HO379 := n5_
                      have BK351 := n6_
                      have BK367 := n7_
                      have BK368 := n8_
                      have HB := n9_
                      clear n0_ n1_ n2_ n3_ n4_ n5_ n6_ n7_ n8_ n9_
                      (try clear hb)
                      (try clear hb2)
                      (try clear hk)
                      (try clear hi)
                      (try clear ho0)
                      (try clear ho1)
                      obtain ⟨Ao57, co57, eo57⟩ := Kd.R_slice HO376.out
                      (first | subst eo57 | (injection eo57 with f1_ f2_ f3_; have f4_ := f1_.symm; have f5_ := f3_.symm; clear f1_ f2_ f3_; subst f4_; subst f5_))
                      obtain ⟨Ao58, co58, eo58⟩ := Kd.R_slice HO379.out
                      (first | subst eo58 | (injection eo58 with f1_ f2_ f3_; have f4_ := f1_.symm; have f5_ := f3_.symm; clear f1_ f2_ f3_; subst f4_; subst f5_))
                      refine hK.out _ _ ⟨(blk_cell BK367.out 0).trans rfl, (blk_cell BK367.out 1).trans rfl, (blk_cell BK367.out 2).trans rfl, (blk_cell BK368.out 0).trans rfl, (blk_cell BK368.out 1).trans rfl, (blk_cell BK368.out 2).trans rfl, (blk_cell BK351.out 0).trans rfl, (blk_cell BK351.out 1).trans rfl, (blk_cell BK351.out 2).trans rfl⟩ (fun hHeld => ?_)
                      clear hK K
                      refine nm_ 67 ?_
                      refine on_ 25 68 HT_ rfl rfl (fun K hK => ?_)
                      refine goes_ Try.func11 (by kernel_rfl) rfl #[.agg #[.int .i64 t352, .slice Ao27 t353.length co27, .slice Ao29 t356.length co29], .agg #[.int .i64 t373, .slice Ao57 t374.length co57, .slice Ao58 t377.length co58]] (by rfl) rfl rfl M_ ?_
                      with_reducible refine (vtimer_Same.calls k1 t352 _ _ t353 _ _ t356 t373 _ _ t374 _ _ t377 t380 _ ?side1 ?side2 ?side3 ?side4 ?side5 ?side6 ?side7 ?side8 A52.out).mono ?_
                      (case side1 => exact Rs_ HO355)
                      (case side2 => exact (Kd.R_reads' HO355.out).2.1)
                      (case side3 => exact Rs_ HO358)
                      (case side4 => exact (Kd.R_reads' HO358.out).2.1)
                      (case side5 => exact Rs_ HO376)
                      (case side6 => exact (Kd.R_reads' HO376.out).2.1)
                      (case side7 => exact Rs_ HO379)
                      (case side8 => exact (Kd.R_reads' HO379.out).2.1)
                      rintro e w59 ⟨rfl, hb⟩
                      refine ⟨_, rfl, ?_⟩
                      have n0_ := Rb_ HO355 hb
                      have n1_ := Rb_ HO358 hb
                      have n2_ := Rb_ HO363 hb
                      have n3_ := Rb_ HO366 hb
                      have n4_ := Rb_ HO376 hb
                      have n5_ := Rb_ HO379 hb
                      have n6_ := Bb_ BK351 hb
                      have n7_ := Bb_ BK367 hb
                      have n8_ := Bb_ BK368 hb
                      have n9_ := Ls_ HB hb
                      clear HO355
                      clear HO358
                      clear HO363
                      clear HO366
                      clear HO376
                      clear HO379
                      clear BK351
                      clear BK367
                      clear BK368
                      clear HB
                      have HO355 := n0_
                      have HO358 := n1_
                      have HO363 := n2_
                      have HO366 := n3_
                      have HO376 := n4_
                      have HO379 := n5_
                      have BK351 := n6_
                      have BK367 := n7_
                      have BK368 := n8_
                      have HB := n9_
                      clear n0_ n1_ n2_ n3_ n4_ n5_ n6_ n7_ n8_ n9_
                      (try clear hb)
                      (try clear hb2)
                      (try clear hk)
                      (try clear hi)
                      refine hK.out _ _ ⟨(blk_cell BK367.out 0).trans rfl, (blk_cell BK367.out 1).trans rfl, (blk_cell BK367.out 2).trans rfl, (blk_cell BK368.out 0).trans rfl, (blk_cell BK368.out 1).trans rfl, (blk_cell BK368.out 2).trans rfl, (blk_cell BK351.out 0).trans rfl, (blk_cell BK351.out 1).trans rfl, (blk_cell BK351.out 2).trans rfl⟩ (fun hHeld => ?_)
                      clear hK K
                      refine nm_ 68 ?_
                      refine pu_ 26 69 HT_ ?_
                      refine pu_ 27 70 HT_ ?_
                      refine done_ (done_of HT_.out (by kernel_rfl)) ?_
                      try go_wp2
                      go_meet
                      case rel => exact ⟨_, (!t380), S_, H', ⟨by have := HK1.out; first | omega | exact Nat.le_refl _⟩, ⟨by (with_reducible repeat (first | apply Kd.R_alloc | apply Kd.R_drewN | apply Kd.R_drew)); exact Kd.R_mono HO355.out (fun _ hk => hk.1)⟩, ⟨by (with_reducible repeat (first | apply Kd.R_alloc | apply Kd.R_drewN | apply Kd.R_drew)); exact Kd.R_mono HO358.out (fun _ hk => hk.1)⟩, ⟨by (with_reducible repeat (first | apply Kd.R_alloc | apply Kd.R_drewN | apply Kd.R_drew)); exact Kd.R_mono HO363.out (fun _ hk => hk.1)⟩, ⟨by (with_reducible repeat (first | apply Kd.R_alloc | apply Kd.R_drewN | apply Kd.R_drew)); exact Kd.R_mono HO366.out (fun _ hk => hk.1)⟩, ⟨B_ BK351⟩, ⟨B_ BK367⟩, ⟨B_ BK368⟩, ⟨L_⟩⟩
                  · replace c44 := Bool.eq_false_iff.mpr c44
                    subst c44
                    have H1 : (if t370 = 280 then ((vtimer_Same.f k1 t352 t353 t356 t360 t361 t364).bind fun t381 => ((mainsheetref18_Same.f k1 t352 t353 t356 t360 t361 t364).bind fun t382 => (if (t381 != t382) = true then (mainsheetlaw18_VtimerTells.j1 k1 l0 false l0 (l0.length : Int) x26_1 true t352 t353 t356) else ((mainsheetlaw18_short.f ((rd_T27 l0 x26_1).f0.f0) ((rd_T27 l0 x26_1).f0.f1) ((rd_T27 l0 x26_1).f1)).bind fun bt383 => ((vtimer_Same.f k1 t352 t353 t356 bt383.1 bt383.2.1 bt383.2.2).bind fun t390 => (mainsheetlaw18_VtimerTells.j1 k1 l0 false l0 (l0.length : Int) x26_1 (!t390) t352 t353 t356)))))) else (mainsheetlaw18_VtimerTells.j1 k1 l0 false l0 (l0.length : Int) x26_1 true t352 t353 t356)) = some r := by rw [if_neg (show ¬ (false = true) by decide)] at H; exact H
                    clear H
                    have H := H1
                    clear H1
                    by_cases c60 : t370 = 280
                    · rw [if_pos c60] at H
                      have c60b0 : (t370 == 280) = true := beq_iff_eq.mpr c60
                      have c60b1 : (t370 != 280) = false := bne_eq_false_iff_eq.mpr c60
                      clear c60
                      replace H := Option.bind_eq_some_iff.mp H
                      obtain ⟨t381, A610, H⟩ := H
                      replace H : ((mainsheetref18_Same.f k1 t352 t353 t356 t360 t361 t364).bind fun t382 => (if (t381 != t382) = true then (mainsheetlaw18_VtimerTells.j1 k1 l0 false l0 (l0.length : Int) x26_1 true t352 t353 t356) else ((mainsheetlaw18_short.f ((rd_T27 l0 x26_1).f0.f0) ((rd_T27 l0 x26_1).f0.f1) ((rd_T27 l0 x26_1).f1)).bind fun bt383 => ((vtimer_Same.f k1 t352 t353 t356 bt383.1 bt383.2.1 bt383.2.2).bind fun t390 => (mainsheetlaw18_VtimerTells.j1 k1 l0 false l0 (l0.length : Int) x26_1 (!t390) t352 t353 t356))))) = some r := H
                      have A61 := Aside0.mk A610
                      clear A610
                      replace H := Option.bind_eq_some_iff.mp H
                      obtain ⟨t382, A620, H⟩ := H
                      replace H : (if (t381 != t382) = true then (mainsheetlaw18_VtimerTells.j1 k1 l0 false l0 (l0.length : Int) x26_1 true t352 t353 t356) else ((mainsheetlaw18_short.f ((rd_T27 l0 x26_1).f0.f0) ((rd_T27 l0 x26_1).f0.f1) ((rd_T27 l0 x26_1).f1)).bind fun bt383 => ((vtimer_Same.f k1 t352 t353 t356 bt383.1 bt383.2.1 bt383.2.2).bind fun t390 => (mainsheetlaw18_VtimerTells.j1 k1 l0 false l0 (l0.length : Int) x26_1 (!t390) t352 t353 t356)))) = some r := H
                      have A62 := Aside0.mk A620
                      clear A620
                      by_cases c63 : (t381 != t382) = true
                      · rw [if_pos c63] at H
                        have c63b0 : (t381 != t382) = true := c63
                        (try (have c63b1 : decide (t381 = t382) = false := by simpa using c63))
                        (try (have c63b2 : (t381 == t382) = false := by simpa using c63))
                        (try (have c63b3 : ¬ (t381 = t382) := by simpa using c63))
                        clear c63
                        exact (mainsheetlaw18_VtimerTells.j1_true H hr_).elim
                      · rw [if_neg c63] at H
                        have c63b0 : (t381 != t382) = false := by simpa using c63
                        (try (have c63b1 : decide (t381 = t382) = true := by simpa using c63))
                        (try (have c63b2 : (t381 == t382) = true := by simpa using c63))
                        clear c63
                        replace H := Option.bind_eq_some_iff.mp H
                        obtain ⟨⟨t383, t384, t387⟩, A670, H⟩ := H
                        replace H : ((vtimer_Same.f k1 t352 t353 t356 t383 t384 t387).bind fun t390 => (mainsheetlaw18_VtimerTells.j1 k1 l0 false l0 (l0.length : Int) x26_1 (!t390) t352 t353 t356)) = some r := H
                        have A67 := Aside0.mk A670
                        clear A670
                        replace H := Option.bind_eq_some_iff.mp H
                        obtain ⟨t390, A680, H⟩ := H
                        replace H : (mainsheetlaw18_VtimerTells.j1 k1 l0 false l0 (l0.length : Int) x26_1 (!t390) t352 t353 t356) = some r := H
                        have A68 := Aside0.mk A680
                        clear A680
                        have H' := Aside0.mk H
                        clear H
                        try go_wp2
                        have n0_ := Aside0.mk (Kd.R_drew HO355.out)
                        have n1_ := Aside0.mk (Kd.R_drew HO358.out)
                        have n2_ := Aside0.mk (Kd.R_drew HO363.out)
                        have n3_ := Aside0.mk (Kd.R_drew HO366.out)
                        have n4_ := Aside0.mk (blk_drew BK351.out)
                        have n5_ := Aside0.mk (blk_drew BK367.out)
                        have n6_ := Aside0.mk (blk_drew BK368.out)
                        have n7_ := Aside0.mk (below_drew1 HB.out)
                        clear HO355
                        clear HO358
                        clear HO363
                        clear HO366
                        clear BK351
                        clear BK367
                        clear BK368
                        clear HB
                        have HO355 := n0_
                        have HO358 := n1_
                        have HO363 := n2_
                        have HO366 := n3_
                        have BK351 := n4_
                        have BK367 := n5_
                        have BK368 := n6_
                        have HB := n7_
                        clear n0_ n1_ n2_ n3_ n4_ n5_ n6_ n7_
                        refine st_ 28 (fun w' => w'.cell? ⟨gb367, 0, none⟩ = some (.int .i64 t352) ∧ w'.cell? ⟨gb367, 1, none⟩ = some (.slice Ao27 t353.length co27) ∧ w'.cell? ⟨gb367, 2, none⟩ = some (.slice Ao29 t356.length co29) ∧ w'.cell? ⟨gb368, 0, none⟩ = some (.int .i64 t360) ∧ w'.cell? ⟨gb368, 1, none⟩ = some (.slice Ao32 t361.length co32) ∧ w'.cell? ⟨gb368, 2, none⟩ = some (.slice Ao34 t364.length co34) ∧ w'.cell? ⟨gb351, 0, none⟩ = some (.int .i64 ((rd_T27 l0 x26_1).f0.f0)) ∧ w'.cell? ⟨gb351, 1, none⟩ = some (.slice A350_1 ((rd_T27 l0 x26_1).f0.f1).length c350_1) ∧ w'.cell? ⟨gb351, 2, none⟩ = some (.slice A350_2 ((rd_T27 l0 x26_1).f1).length c350_2)) [] ⟨(blk_cell BK367.out 0).trans rfl, (blk_cell BK367.out 1).trans rfl, (blk_cell BK367.out 2).trans rfl, (blk_cell BK368.out 0).trans rfl, (blk_cell BK368.out 1).trans rfl, (blk_cell BK368.out 2).trans rfl, (blk_cell BK351.out 0).trans rfl, (blk_cell BK351.out 1).trans rfl, (blk_cell BK351.out 2).trans rfl⟩ (fun hHeld => ?_); refine with_tabW mainsheetlaw18_VtimerTells.tab10 mainsheetlaw18_VtimerTells.bits10 (fun HT_ HW_ => ?_)
                        generalize w41.drew = w69 at HO355 HO358 HO363 HO366 BK351 BK367 BK368 HB hHeld ⊢
                        refine pu_ 0 43 HT_ ?_
                        refine pu_ 1 44 HT_ ?_
                        refine pu_ 2 45 HT_ ?_
                        refine pu_ 3 46 HT_ ?_
                        refine pu_ 4 47 HT_ ?_
                        refine pu_ 5 48 HT_ ?_
                        refine pu_ 6 49 HT_ ?_
                        refine pu_ 7 50 HT_ ?_
                        refine pu_ 8 51 HT_ ?_
                        refine pu_ 9 52 HT_ ?_
                        refine pu_ 10 53 HT_ ?_
                        refine pu_ 11 54 HT_ ?_
                        refine pu_ 12 55 HT_ ?_
                        refine ta_ 13 56 HT_ HW_ rfl rfl hHeld (by rintro w' ⟨s0, s1, s2, s3, s4, s5, s6, s7, s8⟩; go_simp; with_reducible rfl) ?_
                        refine ta_ 14 57 HT_ HW_ rfl rfl hHeld (by rintro w' ⟨s0, s1, s2, s3, s4, s5, s6, s7, s8⟩; go_simp; with_reducible rfl) ?_
                        refine ta_ 16 59 HT_ HW_ rfl rfl hHeld (by rintro w' ⟨s0, s1, s2, s3, s4, s5, s6, s7, s8⟩; go_simp; with_reducible rfl) ?_
                        refine ta_ 17 60 HT_ HW_ rfl rfl hHeld (by rintro w' ⟨s0, s1, s2, s3, s4, s5, s6, s7, s8⟩; go_simp; with_reducible rfl) ?_
                        refine on_ 15 58 HT_ rfl rfl (fun K hK => ?_)
                        refine goes_ Try.func11 (by kernel_rfl) rfl #[.agg #[.int .i64 t352, .slice Ao27 t353.length co27, .slice Ao29 t356.length co29], .agg #[.int .i64 t360, .slice Ao32 t361.length co32, .slice Ao34 t364.length co34]] (by rfl) rfl rfl M_ ?_
                        with_reducible refine (vtimer_Same.calls k1 t352 _ _ t353 _ _ t356 t360 _ _ t361 _ _ t364 t381 _ ?side1 ?side2 ?side3 ?side4 ?side5 ?side6 ?side7 ?side8 A61.out).mono ?_
                        (case side1 => exact Rs_ HO355)
                        (case side2 => exact (Kd.R_reads' HO355.out).2.1)
                        (case side3 => exact Rs_ HO358)
                        (case side4 => exact (Kd.R_reads' HO358.out).2.1)
                        (case side5 => exact Rs_ HO363)
                        (case side6 => exact (Kd.R_reads' HO363.out).2.1)
                        (case side7 => exact Rs_ HO366)
                        (case side8 => exact (Kd.R_reads' HO366.out).2.1)
                        rintro e w70 ⟨rfl, hb⟩
                        refine ⟨_, rfl, ?_⟩
                        have n0_ := Rb_ HO355 hb
                        have n1_ := Rb_ HO358 hb
                        have n2_ := Rb_ HO363 hb
                        have n3_ := Rb_ HO366 hb
                        have n4_ := Bb_ BK351 hb
                        have n5_ := Bb_ BK367 hb
                        have n6_ := Bb_ BK368 hb
                        have n7_ := Ls_ HB hb
                        clear HO355
                        clear HO358
                        clear HO363
                        clear HO366
                        clear BK351
                        clear BK367
                        clear BK368
                        clear HB
                        have HO355 := n0_
                        have HO358 := n1_
                        have HO363 := n2_
                        have HO366 := n3_
                        have BK351 := n4_
                        have BK367 := n5_
                        have BK368 := n6_
                        have HB := n7_
                        clear n0_ n1_ n2_ n3_ n4_ n5_ n6_ n7_
                        (try clear hb)
                        (try clear hb2)
                        (try clear hk)
                        (try clear hi)
                        refine hK.out _ _ ⟨(blk_cell BK367.out 0).trans rfl, (blk_cell BK367.out 1).trans rfl, (blk_cell BK367.out 2).trans rfl, (blk_cell BK368.out 0).trans rfl, (blk_cell BK368.out 1).trans rfl, (blk_cell BK368.out 2).trans rfl, (blk_cell BK351.out 0).trans rfl, (blk_cell BK351.out 1).trans rfl, (blk_cell BK351.out 2).trans rfl⟩ (fun hHeld => ?_)
                        clear hK K
                        refine nm_ 58 ?_
                        refine on_ 18 61 HT_ rfl rfl (fun K hK => ?_)
                        refine goes_ Try.func17 (by kernel_rfl) rfl #[.agg #[.int .i64 t352, .slice Ao27 t353.length co27, .slice Ao29 t356.length co29], .agg #[.int .i64 t360, .slice Ao32 t361.length co32, .slice Ao34 t364.length co34]] (by rfl) rfl rfl M_ ?_
                        with_reducible refine (mainsheetref18_Same.calls k1 t352 _ _ t353 _ _ t356 t360 _ _ t361 _ _ t364 t382 _ ?side1 ?side2 ?side3 ?side4 ?side5 ?side6 ?side7 ?side8 A62.out).mono ?_
                        (case side1 => exact Rs_ HO355)
                        (case side2 => exact (Kd.R_reads' HO355.out).2.1)
                        (case side3 => exact Rs_ HO358)
                        (case side4 => exact (Kd.R_reads' HO358.out).2.1)
                        (case side5 => exact Rs_ HO363)
                        (case side6 => exact (Kd.R_reads' HO363.out).2.1)
                        (case side7 => exact Rs_ HO366)
                        (case side8 => exact (Kd.R_reads' HO366.out).2.1)
                        rintro e w71 ⟨rfl, hb⟩
                        refine ⟨_, rfl, ?_⟩
                        have n0_ := Rb_ HO355 hb
                        have n1_ := Rb_ HO358 hb
                        have n2_ := Rb_ HO363 hb
                        have n3_ := Rb_ HO366 hb
                        have n4_ := Bb_ BK351 hb
                        have n5_ := Bb_ BK367 hb
                        have n6_ := Bb_ BK368 hb
                        have n7_ := Ls_ HB hb
                        clear HO355
                        clear HO358
                        clear HO363
                        clear HO366
                        clear BK351
                        clear BK367
                        clear BK368
                        clear HB
                        have HO355 := n0_
                        have HO358 := n1_
                        have HO363 := n2_
                        have HO366 := n3_
                        have BK351 := n4_
                        have BK367 := n5_
                        have BK368 := n6_
                        have HB := n7_
                        clear n0_ n1_ n2_ n3_ n4_ n5_ n6_ n7_
                        (try clear hb)
                        (try clear hb2)
                        (try clear hk)
                        (try clear hi)
                        refine hK.out _ _ ⟨(blk_cell BK367.out 0).trans rfl, (blk_cell BK367.out 1).trans rfl, (blk_cell BK367.out 2).trans rfl, (blk_cell BK368.out 0).trans rfl, (blk_cell BK368.out 1).trans rfl, (blk_cell BK368.out 2).trans rfl, (blk_cell BK351.out 0).trans rfl, (blk_cell BK351.out 1).trans rfl, (blk_cell BK351.out 2).trans rfl⟩ (fun hHeld => ?_)
                        clear hK K
                        refine nm_ 61 ?_
                        refine pu_ 19 62 HT_ ?_
                        refine pu_ 20 63 HT_ ?_
                        refine pu_ 21 64 HT_ ?_
                        refine ta_ 22 65 HT_ HW_ rfl rfl hHeld (by rintro w' ⟨s0, s1, s2, s3, s4, s5, s6, s7, s8⟩; go_simp; with_reducible rfl) ?_
                        refine ta_ 23 66 HT_ HW_ rfl rfl hHeld (by rintro w' ⟨s0, s1, s2, s3, s4, s5, s6, s7, s8⟩; go_simp; with_reducible rfl) ?_
                        refine on_ 24 67 HT_ rfl rfl (fun K hK => ?_)
                        refine goes_ Try.func8 (by kernel_rfl) rfl #[.agg #[.int .i64 ((rd_T27 l0 x26_1).f0.f0), .slice A350_1 ((rd_T27 l0 x26_1).f0.f1).length c350_1, .slice A350_2 ((rd_T27 l0 x26_1).f1).length c350_2]] (by rfl) rfl rfl M_ ?_
                        with_reducible refine (mainsheetlaw18_short.calls ((rd_T27 l0 x26_1).f0.f0) _ _ ((rd_T27 l0 x26_1).f0.f1) _ _ ((rd_T27 l0 x26_1).f1) t383 t384 t387 _ ?side1 ?side2 ?side3 ?side4 A67.out).mono ?_
                        (case side1 => exact C_ HR350_1)
                        (case side2 => exact HC350_1.out)
                        (case side3 => exact C_ HR350_2)
                        (case side4 => exact HC350_2.out)
                        rintro e w72 ⟨v385, v388, rfl, ho0, ho1, hb⟩
                        refine ⟨_, rfl, ?_⟩
                        have n0_ := Aside0.mk (Kd.R_elder' (R_ HO355) (Kd.R_base ho0) hb)
                        have n1_ := Aside0.mk (Kd.R_elder' (R_ HO358) (Kd.R_base ho1) hb)
                        have n2_ := Aside0.mk (Kd.R_elder' (R_ HO363) (Kd.R_base ho0) hb)
                        have n3_ := Aside0.mk (Kd.R_elder' (R_ HO366) (Kd.R_base ho1) hb)
                        have n4_ := Aside0.mk (Kd.R_lower (Kd.R_new' (Kd.R_new' ho0 (Kd.R_lt (R_ HO355))) (Kd.R_lt (R_ HO363))) (below_size L_))
                        have n5_ := Aside0.mk (Kd.R_lower (Kd.R_new' (Kd.R_new' ho1 (Kd.R_lt (R_ HO358))) (Kd.R_lt (R_ HO366))) (below_size L_))
                        have n6_ := Bb_ BK351 hb
                        have n7_ := Bb_ BK367 hb
                        have n8_ := Bb_ BK368 hb
                        have n9_ := Ls_ HB hb
                        clear HO355
                        clear HO358
                        clear HO363
                        clear HO366
                        clear BK351
                        clear BK367
                        clear BK368
                        clear HB
                        have HO355 := n0_
                        have HO358 := n1_
                        have HO363 := n2_
                        have HO366 := n3_
                        have HO386 := n4_
                        have HO389 := n5_
                        have BK351 := n6_
                        have BK367 := n7_
                        have BK368 := n8_
                        have HB := n9_
                        clear n0_ n1_ n2_ n3_ n4_ n5_ n6_ n7_ n8_ n9_
                        (try clear hb)
                        (try clear hb2)
                        (try clear hk)
                        (try clear hi)
                        (try clear ho0)
                        (try clear ho1)
                        obtain ⟨Ao73, co73, eo73⟩ := Kd.R_slice HO386.out
                        (first | subst eo73 | (injection eo73 with f1_ f2_ f3_; have f4_ := f1_.symm; have f5_ := f3_.symm; clear f1_ f2_ f3_; subst f4_; subst f5_))
                        obtain ⟨Ao74, co74, eo74⟩ := Kd.R_slice HO389.out
                        (first | subst eo74 | (injection eo74 with f1_ f2_ f3_; have f4_ := f1_.symm; have f5_ := f3_.symm; clear f1_ f2_ f3_; subst f4_; subst f5_))
                        refine hK.out _ _ ⟨(blk_cell BK367.out 0).trans rfl, (blk_cell BK367.out 1).trans rfl, (blk_cell BK367.out 2).trans rfl, (blk_cell BK368.out 0).trans rfl, (blk_cell BK368.out 1).trans rfl, (blk_cell BK368.out 2).trans rfl, (blk_cell BK351.out 0).trans rfl, (blk_cell BK351.out 1).trans rfl, (blk_cell BK351.out 2).trans rfl⟩ (fun hHeld => ?_)
                        clear hK K
                        refine nm_ 67 ?_
                        refine on_ 25 68 HT_ rfl rfl (fun K hK => ?_)
                        refine goes_ Try.func11 (by kernel_rfl) rfl #[.agg #[.int .i64 t352, .slice Ao27 t353.length co27, .slice Ao29 t356.length co29], .agg #[.int .i64 t383, .slice Ao73 t384.length co73, .slice Ao74 t387.length co74]] (by rfl) rfl rfl M_ ?_
                        with_reducible refine (vtimer_Same.calls k1 t352 _ _ t353 _ _ t356 t383 _ _ t384 _ _ t387 t390 _ ?side1 ?side2 ?side3 ?side4 ?side5 ?side6 ?side7 ?side8 A68.out).mono ?_
                        (case side1 => exact Rs_ HO355)
                        (case side2 => exact (Kd.R_reads' HO355.out).2.1)
                        (case side3 => exact Rs_ HO358)
                        (case side4 => exact (Kd.R_reads' HO358.out).2.1)
                        (case side5 => exact Rs_ HO386)
                        (case side6 => exact (Kd.R_reads' HO386.out).2.1)
                        (case side7 => exact Rs_ HO389)
                        (case side8 => exact (Kd.R_reads' HO389.out).2.1)
                        rintro e w75 ⟨rfl, hb⟩
                        refine ⟨_, rfl, ?_⟩
                        have n0_ := Rb_ HO355 hb
                        have n1_ := Rb_ HO358 hb
                        have n2_ := Rb_ HO363 hb
                        have n3_ := Rb_ HO366 hb
                        have n4_ := Rb_ HO386 hb
                        have n5_ := Rb_ HO389 hb
                        have n6_ := Bb_ BK351 hb
                        have n7_ := Bb_ BK367 hb
                        have n8_ := Bb_ BK368 hb
                        have n9_ := Ls_ HB hb
                        clear HO355
                        clear HO358
                        clear HO363
                        clear HO366
                        clear HO386
                        clear HO389
                        clear BK351
                        clear BK367
                        clear BK368
                        clear HB
                        have HO355 := n0_
                        have HO358 := n1_
                        have HO363 := n2_
                        have HO366 := n3_
                        have HO386 := n4_
                        have HO389 := n5_
                        have BK351 := n6_
                        have BK367 := n7_
                        have BK368 := n8_
                        have HB := n9_
                        clear n0_ n1_ n2_ n3_ n4_ n5_ n6_ n7_ n8_ n9_
                        (try clear hb)
                        (try clear hb2)
                        (try clear hk)
                        (try clear hi)
                        refine hK.out _ _ ⟨(blk_cell BK367.out 0).trans rfl, (blk_cell BK367.out 1).trans rfl, (blk_cell BK367.out 2).trans rfl, (blk_cell BK368.out 0).trans rfl, (blk_cell BK368.out 1).trans rfl, (blk_cell BK368.out 2).trans rfl, (blk_cell BK351.out 0).trans rfl, (blk_cell BK351.out 1).trans rfl, (blk_cell BK351.out 2).trans rfl⟩ (fun hHeld => ?_)
                        clear hK K
                        refine nm_ 68 ?_
                        refine pu_ 26 69 HT_ ?_
                        refine pu_ 27 70 HT_ ?_
                        refine done_ (done_of HT_.out (by kernel_rfl)) ?_
                        try go_wp2
                        go_meet
                        case rel => exact ⟨_, (!t390), S_, H', ⟨by have := HK1.out; first | omega | exact Nat.le_refl _⟩, ⟨by (with_reducible repeat (first | apply Kd.R_alloc | apply Kd.R_drewN | apply Kd.R_drew)); exact Kd.R_mono HO355.out (fun _ hk => hk.1)⟩, ⟨by (with_reducible repeat (first | apply Kd.R_alloc | apply Kd.R_drewN | apply Kd.R_drew)); exact Kd.R_mono HO358.out (fun _ hk => hk.1)⟩, ⟨by (with_reducible repeat (first | apply Kd.R_alloc | apply Kd.R_drewN | apply Kd.R_drew)); exact Kd.R_mono HO363.out (fun _ hk => hk.1)⟩, ⟨by (with_reducible repeat (first | apply Kd.R_alloc | apply Kd.R_drewN | apply Kd.R_drew)); exact Kd.R_mono HO366.out (fun _ hk => hk.1)⟩, ⟨B_ BK351⟩, ⟨B_ BK367⟩, ⟨B_ BK368⟩, ⟨L_⟩⟩
                    · rw [if_neg c60] at H
                      have c60b0 : (t370 == 280) = false := beq_eq_false_iff_ne.mpr c60
                      have c60b1 : (t370 != 280) = true := bne_iff_ne.mpr c60
                      exact (mainsheetlaw18_VtimerTells.j1_true H hr_).elim
               case rest =>
                clear HC16
                try clear c1; try clear p2; try clear c3; try clear c6; try clear c8; try clear c11; try clear c17; try clear c35; try clear c60; try clear c60b0; try clear c60b1
                obtain ⟨kq, x70_15, rfl, HA, HJ15, HO_368001, HO_368002, HO_369001, HO_369002, BK351, BK367, BK368, HB⟩ := hcut
                cases kq with
                | zero => exact absurd HA.out (by simp [mainsheetlaw18_VtimerTells.j1])
                | succ kj15 =>
                 have H := HA.out
                 clear HA
                 simp only [mainsheetlaw18_VtimerTells.j1] at H
                 by_cases c77 : x70_15 = true
                 · subst c77
                   have H1 : (some false) = some r := by rw [if_pos rfl] at H; exact H
                   clear H
                   have H := H1
                   clear H1
                   exact absurd ((Option.some.inj H).trans hr_) (by decide) -- leaf 2
                 · replace c77 := Bool.eq_false_iff.mpr c77
                   subst c77
                   have H1 : ((vtimer_Next.f kj15 t352 t353 t356).bind fun bt391 => ((mainsheetref18_Next.f kj15 t352 t353 t356).bind fun t393 => (if t369 = true then (if bt391.1 = t393 then (if (bt391.2 != (decide (t393 > 0))) = true then (mainsheetlaw18_VtimerTells.j2 kj15 l0 t369 l0 (l0.length : Int) x26_1 true t352 t353 t356) else (mainsheetlaw18_VtimerTells.j2 kj15 l0 t369 l0 (l0.length : Int) x26_1 false t352 t353 t356)) else (mainsheetlaw18_VtimerTells.j2 kj15 l0 t369 l0 (l0.length : Int) x26_1 true t352 t353 t356)) else (if bt391.1 = 0 then (mainsheetlaw18_VtimerTells.j2 kj15 l0 t369 l0 (l0.length : Int) x26_1 bt391.2 t352 t353 t356) else (mainsheetlaw18_VtimerTells.j2 kj15 l0 t369 l0 (l0.length : Int) x26_1 true t352 t353 t356))))) = some r := by rw [if_neg (show ¬ (false = true) by decide)] at H; exact H
                   clear H
                   have H := H1
                   clear H1
                   replace H := Option.bind_eq_some_iff.mp H
                   obtain ⟨⟨t391, t392⟩, A780, H⟩ := H
                   replace H : ((mainsheetref18_Next.f kj15 t352 t353 t356).bind fun t393 => (if t369 = true then (if t391 = t393 then (if (t392 != (decide (t393 > 0))) = true then (mainsheetlaw18_VtimerTells.j2 kj15 l0 t369 l0 (l0.length : Int) x26_1 true t352 t353 t356) else (mainsheetlaw18_VtimerTells.j2 kj15 l0 t369 l0 (l0.length : Int) x26_1 false t352 t353 t356)) else (mainsheetlaw18_VtimerTells.j2 kj15 l0 t369 l0 (l0.length : Int) x26_1 true t352 t353 t356)) else (if t391 = 0 then (mainsheetlaw18_VtimerTells.j2 kj15 l0 t369 l0 (l0.length : Int) x26_1 t392 t352 t353 t356) else (mainsheetlaw18_VtimerTells.j2 kj15 l0 t369 l0 (l0.length : Int) x26_1 true t352 t353 t356)))) = some r := H
                   have A78 := Aside0.mk A780
                   clear A780
                   replace H := Option.bind_eq_some_iff.mp H
                   obtain ⟨t393, A790, H⟩ := H
                   replace H : (if t369 = true then (if t391 = t393 then (if (t392 != (decide (t393 > 0))) = true then (mainsheetlaw18_VtimerTells.j2 kj15 l0 t369 l0 (l0.length : Int) x26_1 true t352 t353 t356) else (mainsheetlaw18_VtimerTells.j2 kj15 l0 t369 l0 (l0.length : Int) x26_1 false t352 t353 t356)) else (mainsheetlaw18_VtimerTells.j2 kj15 l0 t369 l0 (l0.length : Int) x26_1 true t352 t353 t356)) else (if t391 = 0 then (mainsheetlaw18_VtimerTells.j2 kj15 l0 t369 l0 (l0.length : Int) x26_1 t392 t352 t353 t356) else (mainsheetlaw18_VtimerTells.j2 kj15 l0 t369 l0 (l0.length : Int) x26_1 true t352 t353 t356))) = some r := H
                   have A79 := Aside0.mk A790
                   clear A790
                   have HC80 := Aside0.mk H
                   clear H
                   have hnb81 := NB367_351.out
                   have hnc81 := NB351_367.out
                   have hnb82 := NB367_368.out
                   have hnc82 := NB368_367.out
                   have hcz83_0 : wc.cell? ⟨gb367, 0, none⟩ = some (.int .i64 t352) := (blk_cell BK367.out 0).trans rfl
                   have hcz83_1 : wc.cell? ⟨gb367, 1, none⟩ = some (.slice Ao27 t353.length co27) := (blk_cell BK367.out 1).trans rfl
                   have hcz83_2 : wc.cell? ⟨gb367, 2, none⟩ = some (.slice Ao29 t356.length co29) := (blk_cell BK367.out 2).trans rfl
                   have hfz83_0 := blk_frozen BK367.out 0
                   have hfz83_1 := blk_frozen BK367.out 1
                   have hfz83_2 := blk_frozen BK367.out 2
                   go_upto_region 14 with (first | ((with_reducible refine gate_callee (f := 13) rfl ?_); refine goesL_ (some 73) rfl rfl Try.func13 (by kernel_rfl) rfl #[.agg #[.int .i64 t352, .slice Ao27 t353.length co27, .slice Ao29 t356.length co29]] rfl M_ ?_; (with_reducible refine (vtimer_Next.calls kj15 t352 _ _ t353 _ _ t356 t391 t392 _ ?side1 ?side2 ?side3 ?side4 A78.out).mono ?_); (case side1 => exact Rs_ HO_368001); (case side2 => exact (Kd.R_reads' HO_368001.out).2.1); (case side3 => exact Rs_ HO_368002); (case side4 => exact (Kd.R_reads' HO_368002.out).2.1); rintro e w84 ⟨rfl, hb⟩; refine ⟨_, rfl, ?_⟩; replace HO_368001 := Rb_ HO_368001 hb; replace HO_368002 := Rb_ HO_368002 hb; replace HO_369001 := Rb_ HO_369001 hb; replace HO_369002 := Rb_ HO_369002 hb; replace BK351 := Bb_ BK351 hb; replace BK367 := Bb_ BK367 hb; replace BK368 := Bb_ BK368 hb; replace HB := Ls_ HB hb; (try clear hb); (try clear hb2); (try clear hk); (try clear hi); have hcz85_0 : w84.cell? ⟨gb367, 0, none⟩ = some (.int .i64 t352) := (blk_cell BK367.out 0).trans rfl; have hcz85_1 : w84.cell? ⟨gb367, 1, none⟩ = some (.slice Ao27 t353.length co27) := (blk_cell BK367.out 1).trans rfl; have hcz85_2 : w84.cell? ⟨gb367, 2, none⟩ = some (.slice Ao29 t356.length co29) := (blk_cell BK367.out 2).trans rfl; have hfz85_0 := blk_frozen BK367.out 0; have hfz85_1 := blk_frozen BK367.out 1; have hfz85_2 := blk_frozen BK367.out 2) | ((with_reducible refine gate_callee (f := 18) rfl ?_); refine goesL_ (some 77) rfl rfl Try.func18 (by kernel_rfl) rfl #[.agg #[.int .i64 t352, .slice Ao27 t353.length co27, .slice Ao29 t356.length co29]] rfl M_ ?_; (with_reducible refine (mainsheetref18_Next.calls kj15 t352 _ _ t353 _ _ t356 t393 _ ?side1 ?side2 ?side3 ?side4 A79.out).mono ?_); (case side1 => exact Rs_ HO_368001); (case side2 => exact (Kd.R_reads' HO_368001.out).2.1); (case side3 => exact Rs_ HO_368002); (case side4 => exact (Kd.R_reads' HO_368002.out).2.1); rintro e w86 ⟨rfl, hb⟩; refine ⟨_, rfl, ?_⟩; replace HO_368001 := Rb_ HO_368001 hb; replace HO_368002 := Rb_ HO_368002 hb; replace HO_369001 := Rb_ HO_369001 hb; replace HO_369002 := Rb_ HO_369002 hb; replace BK351 := Bb_ BK351 hb; replace BK367 := Bb_ BK367 hb; replace BK368 := Bb_ BK368 hb; replace HB := Ls_ HB hb; (try clear hb); (try clear hb2); (try clear hk); (try clear hi)))
                   (try simp only [Act.put, List.setIfInBounds_toArray, List.set_cons_zero, List.set_cons_succ])
                   go_cut [100] (fun v100 wc => ∃ (kq : Nat) (x100_79 : Bool), v100 = .bool x100_79 ∧ Aside0 (mainsheetlaw18_VtimerTells.j2 kq l0 t369 l0 (l0.length : Int) x26_1 x100_79 t352 t353 t356 = some r) ∧ Aside0 (kq ≤ kj15) ∧ Aside0 (Kd.R k88 88 wc w.heap.size (fun k_ => some k_ ≠ ((.slice Ao32 t361.length co32) : Value).ownBlock) (.slice Ao27 t353.length co27) t353) ∧ Aside0 (Kd.R k47 47 wc w.heap.size (fun k_ => some k_ ≠ ((.slice Ao34 t364.length co34) : Value).ownBlock) (.slice Ao29 t356.length co29) t356) ∧ Aside0 (Kd.R k88 88 wc w.heap.size (fun k_ => some k_ ≠ ((.slice Ao27 t353.length co27) : Value).ownBlock) (.slice Ao32 t361.length co32) t361) ∧ Aside0 (Kd.R k47 47 wc w.heap.size (fun k_ => some k_ ≠ ((.slice Ao29 t356.length co29) : Value).ownBlock) (.slice Ao34 t364.length co34) t364) ∧ Aside0 (wc.heap[gb351]? = some (.cells #[.int .i64 ((rd_T27 l0 x26_1).f0.f0), (.slice A350_1 ((rd_T27 l0 x26_1).f0.f1).length c350_1), (.slice A350_2 ((rd_T27 l0 x26_1).f1).length c350_2)] 27 (0, 0))) ∧ Aside0 (wc.heap[gb367]? = some (.cells #[.int .i64 t352, (.slice Ao27 t353.length co27), (.slice Ao29 t356.length co29)] 27 (0, 0))) ∧ Aside0 (wc.heap[gb368]? = some (.cells #[.int .i64 t360, (.slice Ao32 t361.length co32), (.slice Ao34 t364.length co34)] 27 (0, 0))) ∧ Aside0 (Below w.heap.size w wc))
                   case first =>
                    have H := HC80.out
                    clear HC80
                    by_cases c87 : t369 = true
                    · subst c87
                      have H1 : (if t391 = t393 then (if (t392 != (decide (t393 > 0))) = true then (mainsheetlaw18_VtimerTells.j2 kj15 l0 true l0 (l0.length : Int) x26_1 true t352 t353 t356) else (mainsheetlaw18_VtimerTells.j2 kj15 l0 true l0 (l0.length : Int) x26_1 false t352 t353 t356)) else (mainsheetlaw18_VtimerTells.j2 kj15 l0 true l0 (l0.length : Int) x26_1 true t352 t353 t356)) = some r := by rw [if_pos rfl] at H; exact H
                      clear H
                      have H := H1
                      clear H1
                      by_cases c88 : t391 = t393
                      · rw [if_pos c88] at H
                        have c88b0 : (t391 == t393) = true := beq_iff_eq.mpr c88
                        have c88b1 : (t391 != t393) = false := bne_eq_false_iff_eq.mpr c88
                        clear c88
                        (first | rw [c88b0] | (simp only [i64_w, i32_w]; rw [c88b0]) | skip)
                        by_cases c89 : (t392 != (decide (t393 > 0))) = true
                        · rw [if_pos c89] at H
                          have c89b0 : (t392 != (decide (t393 > 0))) = true := c89
                          (try (have c89b1 : decide (t392 = (decide (t393 > 0))) = false := by simpa using c89))
                          (try (have c89b2 : (t392 == (decide (t393 > 0))) = false := by simpa using c89))
                          (try (have c89b3 : ¬ (t392 = (decide (t393 > 0))) := by simpa using c89))
                          clear c89
                          exact (mainsheetlaw18_VtimerTells.j2_true H hr_).elim
                        · rw [if_neg c89] at H
                          have c89b0 : (t392 != (decide (t393 > 0))) = false := by simpa using c89
                          (try (have c89b1 : decide (t392 = (decide (t393 > 0))) = true := by simpa using c89))
                          (try (have c89b2 : (t392 == (decide (t393 > 0))) = true := by simpa using c89))
                          clear c89
                          have H' := Aside0.mk H
                          clear H
                          go_wp2
                          go_meet
                          case rel => exact ⟨_, (false), S_, H', ⟨by have := HK1.out; have := HJ15.out; first | omega | exact Nat.le_refl _⟩, ⟨R_ HO_368001⟩, ⟨R_ HO_368002⟩, ⟨R_ HO_369001⟩, ⟨R_ HO_369002⟩, ⟨B_ BK351⟩, ⟨B_ BK367⟩, ⟨B_ BK368⟩, ⟨L_⟩⟩
                      · rw [if_neg c88] at H
                        have c88b0 : (t391 == t393) = false := beq_eq_false_iff_ne.mpr c88
                        have c88b1 : (t391 != t393) = true := bne_iff_ne.mpr c88
                        (first | rw [c88b0] | (simp only [i64_w, i32_w]; rw [c88b0]) | skip)
                        exact (mainsheetlaw18_VtimerTells.j2_true H hr_).elim
                    · replace c87 := Bool.eq_false_iff.mpr c87
                      subst c87
                      have H1 : (if t391 = 0 then (mainsheetlaw18_VtimerTells.j2 kj15 l0 false l0 (l0.length : Int) x26_1 t392 t352 t353 t356) else (mainsheetlaw18_VtimerTells.j2 kj15 l0 false l0 (l0.length : Int) x26_1 true t352 t353 t356)) = some r := by rw [if_neg (show ¬ (false = true) by decide)] at H; exact H
                      clear H
                      have H := H1
                      clear H1
                      by_cases c90 : t391 = 0
                      · rw [if_pos c90] at H
                        have c90b0 : (t391 == 0) = true := beq_iff_eq.mpr c90
                        have c90b1 : (t391 != 0) = false := bne_eq_false_iff_eq.mpr c90
                        clear c90
                        have H' := Aside0.mk H
                        clear H
                        go_wp2
                        go_meet
                        case rel => exact ⟨_, (t392), S_, H', ⟨by have := HK1.out; have := HJ15.out; first | omega | exact Nat.le_refl _⟩, ⟨R_ HO_368001⟩, ⟨R_ HO_368002⟩, ⟨R_ HO_369001⟩, ⟨R_ HO_369002⟩, ⟨B_ BK351⟩, ⟨B_ BK367⟩, ⟨B_ BK368⟩, ⟨L_⟩⟩
                      · rw [if_neg c90] at H
                        have c90b0 : (t391 == 0) = false := beq_eq_false_iff_ne.mpr c90
                        have c90b1 : (t391 != 0) = true := bne_iff_ne.mpr c90
                        exact (mainsheetlaw18_VtimerTells.j2_true H hr_).elim
                   case rest =>
                    clear HC80
                    try clear c1; try clear p2; try clear c3; try clear c6; try clear c7; try clear c8; try clear c9; try clear c11; try clear c13; try clear c17; try clear c18; try clear c35; try clear c60; try clear c60b0; try clear c60b1; try clear c77; try clear c81; try clear c82; try clear c87; try clear c88; try clear c88b0; try clear c88b1; try clear c89; try clear c89b0; try clear c89b1; try clear c89b2; try clear c90; try clear c90b0; try clear c90b1; try clear hcz83_0; try clear hcz83_1; try clear hcz83_2; try clear hcz85_0; try clear hcz85_1; try clear hcz85_2; try clear hfz83_0; try clear hfz83_1; try clear hfz83_2; try clear hfz85_0; try clear hfz85_1; try clear hfz85_2; try clear p2
                    obtain ⟨kq, x100_79, rfl, HA, HJ79, HO_368001, HO_368002, HO_369001, HO_369002, BK351, BK367, BK368, HB⟩ := hcut
                    cases kq with
                    | zero => exact absurd HA.out (by simp [mainsheetlaw18_VtimerTells.j2])
                    | succ kj79 =>
                     have H := HA.out
                     clear HA
                     simp only [mainsheetlaw18_VtimerTells.j2] at H
                     by_cases c91 : x100_79 = true
                     · subst c91
                       have H1 : (some false) = some r := by rw [if_pos rfl] at H; exact H
                       clear H
                       have H := H1
                       clear H1
                       exact absurd ((Option.some.inj H).trans hr_) (by decide) -- leaf 3
                     · replace c91 := Bool.eq_false_iff.mpr c91
                       subst c91
                       have H1 : (mainsheetlaw18_VtimerTells.l1 kj79 l0 t369 l0 (l0.length : Int) x26_1 0 t352 t353 t356) = some r := by rw [if_neg (show ¬ (false = true) by decide)] at H; exact H
                       clear H
                       have H := H1
                       clear H1
                       have H' := Aside0.mk H
                       clear H
                       go_wp2
                       go_loopg [101] kj79 (fun kq v101 w' => ∃ (x101_4 : Int), v101 = .int .i64 x101_4 ∧ Aside0 (mainsheetlaw18_VtimerTells.l1 kq l0 t369 l0 (l0.length : Int) x26_1 x101_4 t352 t353 t356 = some r) ∧ Aside0 (kq ≤ kj79) ∧ Aside0 (Kd.R k88 88 w' w.heap.size (fun k_ => some k_ ≠ ((.slice Ao32 t361.length co32) : Value).ownBlock) (.slice Ao27 t353.length co27) t353) ∧ Aside0 (Kd.R k47 47 w' w.heap.size (fun k_ => some k_ ≠ ((.slice Ao34 t364.length co34) : Value).ownBlock) (.slice Ao29 t356.length co29) t356) ∧ Aside0 (Kd.R k88 88 w' w.heap.size (fun k_ => some k_ ≠ ((.slice Ao27 t353.length co27) : Value).ownBlock) (.slice Ao32 t361.length co32) t361) ∧ Aside0 (Kd.R k47 47 w' w.heap.size (fun k_ => some k_ ≠ ((.slice Ao29 t356.length co29) : Value).ownBlock) (.slice Ao34 t364.length co34) t364) ∧ Aside0 (w'.heap[gb351]? = some (.cells #[.int .i64 ((rd_T27 l0 x26_1).f0.f0), (.slice A350_1 ((rd_T27 l0 x26_1).f0.f1).length c350_1), (.slice A350_2 ((rd_T27 l0 x26_1).f1).length c350_2)] 27 (0, 0))) ∧ Aside0 (w'.heap[gb367]? = some (.cells #[.int .i64 t352, (.slice Ao27 t353.length co27), (.slice Ao29 t356.length co29)] 27 (0, 0))) ∧ Aside0 (w'.heap[gb368]? = some (.cells #[.int .i64 t360, (.slice Ao32 t361.length co32), (.slice Ao34 t364.length co34)] 27 (0, 0))) ∧ Aside0 (Below w.heap.size w w'))
                       case atStart => exact ⟨(0), S_, H', ⟨Nat.le_refl _⟩, ⟨R_ HO_368001⟩, ⟨R_ HO_368002⟩, ⟨R_ HO_369001⟩, ⟨R_ HO_369002⟩, ⟨B_ BK351⟩, ⟨B_ BK367⟩, ⟨B_ BK368⟩, ⟨L_⟩⟩
                       case round =>
                        clear H'
                        try clear c1; try clear p2; try clear c3; try clear c6; try clear c7; try clear c8; try clear c9; try clear c11; try clear c13; try clear c17; try clear c18; try clear c35; try clear c60; try clear c60b0; try clear c60b1; try clear c77; try clear c81; try clear c82; try clear c87; try clear c88; try clear c88b0; try clear c88b1; try clear c89; try clear c89b0; try clear c89b1; try clear c89b2; try clear c90; try clear c90b0; try clear c90b1; try clear c91; try clear hcz83_0; try clear hcz83_1; try clear hcz83_2; try clear hcz85_0; try clear hcz85_1; try clear hcz85_2; try clear hfz83_0; try clear hfz83_1; try clear hfz83_2; try clear hfz85_0; try clear hfz85_1; try clear hfz85_2; try clear p2
                        obtain ⟨x101_4, rfl, HA, HK4, HO_368001, HO_368002, HO_369001, HO_369002, BK351, BK367, BK368, HB⟩ := hrel
                        cases gk with
                        | zero => exact absurd HA.out (by simp [mainsheetlaw18_VtimerTells.l1])
                        | succ k4 =>
                         have H := HA.out
                         clear HA
                         simp only [mainsheetlaw18_VtimerTells.l1] at H
                         by_cases c92 : x101_4 < 19
                         · rw [if_pos c92] at H
                           have c92b0 : decide (x101_4 < 19) = true := decide_eq_true c92
                           clear c92
                           replace H := Option.bind_eq_some_iff.mp H
                           obtain ⟨⟨t394, t395, t396, t397, t398⟩, A930, H⟩ := H
                           replace H : ((vtimer_Sleeps.f k4 t352 t353 t356 (wrap64 (x101_4 - 1))).bind fun bt400 => (if t369 = true then ((mainsheetref18_Get.f k4 t352 t353 t356 (wrap64 (x101_4 - 1))).bind fun bt403 => ((mainsheetref18_Sleeps.f k4 t352 t353 t356 (wrap64 (x101_4 - 1))).bind fun t408 => (if (!(t394 == bt403.1) || (!(t395 == bt403.2.1) || (!(t396 == bt403.2.2.1)))) = true then (some false) else (if t397 = bt403.2.2.2.1 then (if (t398 != bt403.2.2.2.2) = true then (some false) else (if bt400.1 = t408 then (if (bt400.2 != (decide (t408 > 0))) = true then (some false) else (mainsheetlaw18_VtimerTells.l1 k4 l0 t369 l0 (l0.length : Int) x26_1 (wrap64 (x101_4 + 1)) t352 t353 t356)) else (some false))) else (some false))))) else (if (!(t394 == 0) || (!(t395 == 0) || (!(t396 == 0)))) = true then (some false) else (if t397 = 0 then (if (t398 != false) = true then (some false) else (if bt400.1 = 0 then (if (bt400.2 != (decide (0 > 0))) = true then (some false) else (mainsheetlaw18_VtimerTells.l1 k4 l0 t369 l0 (l0.length : Int) x26_1 (wrap64 (x101_4 + 1)) t352 t353 t356)) else (some false))) else (some false))))) = some r := H
                           have A93 := Aside0.mk A930
                           clear A930
                           replace H := Option.bind_eq_some_iff.mp H
                           obtain ⟨⟨t400, t401⟩, A940, H⟩ := H
                           replace H : (if t369 = true then ((mainsheetref18_Get.f k4 t352 t353 t356 (wrap64 (x101_4 - 1))).bind fun bt403 => ((mainsheetref18_Sleeps.f k4 t352 t353 t356 (wrap64 (x101_4 - 1))).bind fun t408 => (if (!(t394 == bt403.1) || (!(t395 == bt403.2.1) || (!(t396 == bt403.2.2.1)))) = true then (some false) else (if t397 = bt403.2.2.2.1 then (if (t398 != bt403.2.2.2.2) = true then (some false) else (if t400 = t408 then (if (t401 != (decide (t408 > 0))) = true then (some false) else (mainsheetlaw18_VtimerTells.l1 k4 l0 t369 l0 (l0.length : Int) x26_1 (wrap64 (x101_4 + 1)) t352 t353 t356)) else (some false))) else (some false))))) else (if (!(t394 == 0) || (!(t395 == 0) || (!(t396 == 0)))) = true then (some false) else (if t397 = 0 then (if (t398 != false) = true then (some false) else (if t400 = 0 then (if (t401 != (decide (0 > 0))) = true then (some false) else (mainsheetlaw18_VtimerTells.l1 k4 l0 t369 l0 (l0.length : Int) x26_1 (wrap64 (x101_4 + 1)) t352 t353 t356)) else (some false))) else (some false)))) = some r := H
                           have A94 := Aside0.mk A940
                           clear A940
                           by_cases c95 : t369 = true
                           · subst c95
                             have H1 : ((mainsheetref18_Get.f k4 t352 t353 t356 (wrap64 (x101_4 - 1))).bind fun bt403 => ((mainsheetref18_Sleeps.f k4 t352 t353 t356 (wrap64 (x101_4 - 1))).bind fun t408 => (if (!(t394 == bt403.1) || (!(t395 == bt403.2.1) || (!(t396 == bt403.2.2.1)))) = true then (some false) else (if t397 = bt403.2.2.2.1 then (if (t398 != bt403.2.2.2.2) = true then (some false) else (if t400 = t408 then (if (t401 != (decide (t408 > 0))) = true then (some false) else (mainsheetlaw18_VtimerTells.l1 k4 l0 true l0 (l0.length : Int) x26_1 (wrap64 (x101_4 + 1)) t352 t353 t356)) else (some false))) else (some false))))) = some r := by rw [if_pos rfl] at H; exact H
                             clear H
                             have H := H1
                             clear H1
                             replace H := Option.bind_eq_some_iff.mp H
                             obtain ⟨⟨t403, t404, t405, t406, t407⟩, A960, H⟩ := H
                             replace H : ((mainsheetref18_Sleeps.f k4 t352 t353 t356 (wrap64 (x101_4 - 1))).bind fun t408 => (if (!(t394 == t403) || (!(t395 == t404) || (!(t396 == t405)))) = true then (some false) else (if t397 = t406 then (if (t398 != t407) = true then (some false) else (if t400 = t408 then (if (t401 != (decide (t408 > 0))) = true then (some false) else (mainsheetlaw18_VtimerTells.l1 k4 l0 true l0 (l0.length : Int) x26_1 (wrap64 (x101_4 + 1)) t352 t353 t356)) else (some false))) else (some false)))) = some r := H
                             have A96 := Aside0.mk A960
                             clear A960
                             replace H := Option.bind_eq_some_iff.mp H
                             obtain ⟨t408, A970, H⟩ := H
                             replace H : (if (!(t394 == t403) || (!(t395 == t404) || (!(t396 == t405)))) = true then (some false) else (if t397 = t406 then (if (t398 != t407) = true then (some false) else (if t400 = t408 then (if (t401 != (decide (t408 > 0))) = true then (some false) else (mainsheetlaw18_VtimerTells.l1 k4 l0 true l0 (l0.length : Int) x26_1 (wrap64 (x101_4 + 1)) t352 t353 t356)) else (some false))) else (some false))) = some r := H
                             have A97 := Aside0.mk A970
                             clear A970
                             by_cases c98 : (!(t394 == t403) || (!(t395 == t404) || (!(t396 == t405)))) = true
                             · rw [if_pos c98] at H
                               have c98b0 : (!(t394 == t403) || (!(t395 == t404) || (!(t396 == t405)))) = true := c98
                               clear c98
                               exact absurd ((Option.some.inj H).trans hr_) (by decide) -- leaf 4
                             · rw [if_neg c98] at H
                               have c98b0 : (!(t394 == t403) || (!(t395 == t404) || (!(t396 == t405)))) = false := by simpa using c98
                               clear c98
                               by_cases c122 : t397 = t406
                               · rw [if_pos c122] at H
                                 have c122b0 : (t397 == t406) = true := beq_iff_eq.mpr c122
                                 have c122b1 : (t397 != t406) = false := bne_eq_false_iff_eq.mpr c122
                                 clear c122
                                 by_cases c123 : (t398 != t407) = true
                                 · rw [if_pos c123] at H
                                   have c123b0 : (t398 != t407) = true := c123
                                   (try (have c123b1 : decide (t398 = t407) = false := by simpa using c123))
                                   (try (have c123b2 : (t398 == t407) = false := by simpa using c123))
                                   (try (have c123b3 : ¬ (t398 = t407) := by simpa using c123))
                                   clear c123
                                   exact absurd ((Option.some.inj H).trans hr_) (by decide) -- leaf 5
                                 · rw [if_neg c123] at H
                                   have c123b0 : (t398 != t407) = false := by simpa using c123
                                   (try (have c123b1 : decide (t398 = t407) = true := by simpa using c123))
                                   (try (have c123b2 : (t398 == t407) = true := by simpa using c123))
                                   clear c123
                                   by_cases c147 : t400 = t408
                                   · rw [if_pos c147] at H
                                     have c147b0 : (t400 == t408) = true := beq_iff_eq.mpr c147
                                     have c147b1 : (t400 != t408) = false := bne_eq_false_iff_eq.mpr c147
                                     clear c147
                                     by_cases c148 : (t401 != (decide (t408 > 0))) = true
                                     · rw [if_pos c148] at H
                                       have c148b0 : (t401 != (decide (t408 > 0))) = true := c148
                                       (try (have c148b1 : decide (t401 = (decide (t408 > 0))) = false := by simpa using c148))
                                       (try (have c148b2 : (t401 == (decide (t408 > 0))) = false := by simpa using c148))
                                       (try (have c148b3 : ¬ (t401 = (decide (t408 > 0))) := by simpa using c148))
                                       clear c148
                                       exact absurd ((Option.some.inj H).trans hr_) (by decide) -- leaf 6
                                     · rw [if_neg c148] at H
                                       have c148b0 : (t401 != (decide (t408 > 0))) = false := by simpa using c148
                                       (try (have c148b1 : decide (t401 = (decide (t408 > 0))) = true := by simpa using c148))
                                       (try (have c148b2 : (t401 == (decide (t408 > 0))) = true := by simpa using c148))
                                       clear c148
                                       have H' := Aside0.mk H
                                       clear H
                                       have hnb172 := NB367_351.out
                                       have hnc172 := NB351_367.out
                                       have hnb173 := NB367_368.out
                                       have hnc173 := NB368_367.out
                                       have hcz174_0 : wr.cell? ⟨gb367, 0, none⟩ = some (.int .i64 t352) := (blk_cell BK367.out 0).trans rfl
                                       have hcz174_1 : wr.cell? ⟨gb367, 1, none⟩ = some (.slice Ao27 t353.length co27) := (blk_cell BK367.out 1).trans rfl
                                       have hcz174_2 : wr.cell? ⟨gb367, 2, none⟩ = some (.slice Ao29 t356.length co29) := (blk_cell BK367.out 2).trans rfl
                                       have hfz174_0 := blk_frozen BK367.out 0
                                       have hfz174_1 := blk_frozen BK367.out 1
                                       have hfz174_2 := blk_frozen BK367.out 2
                                       go_wp2_with (first | ((with_reducible refine gate_callee (f := 14) rfl ?_); refine goesL_ (some 108) rfl rfl Try.func14 (by kernel_rfl) rfl #[.agg #[.int .i64 t352, .slice Ao27 t353.length co27, .slice Ao29 t356.length co29], .int .i64 (wrap64 (x101_4 - 1))] rfl M_ ?_; (with_reducible refine (vtimer_Get.calls k4 t352 _ _ t353 _ _ t356 (wrap64 (x101_4 - 1)) t394 t395 t396 t397 t398 _ ?side1 ?side2 ?side3 ?side4 A93.out).mono ?_); (case side1 => exact Rs_ HO_368001); (case side2 => exact (Kd.R_reads' HO_368001.out).2.1); (case side3 => exact Rs_ HO_368002); (case side4 => exact (Kd.R_reads' HO_368002.out).2.1); rintro e w175 ⟨rfl, hb⟩; refine ⟨_, rfl, ?_⟩; replace HO_368001 := Rb_ HO_368001 hb; replace HO_368002 := Rb_ HO_368002 hb; replace HO_369001 := Rb_ HO_369001 hb; replace HO_369002 := Rb_ HO_369002 hb; replace BK351 := Bb_ BK351 hb; replace BK367 := Bb_ BK367 hb; replace BK368 := Bb_ BK368 hb; replace HB := Ls_ HB hb; (try clear hb); (try clear hb2); (try clear hk); (try clear hi)) | ((with_reducible refine gate_dst (N := 13) rfl ?_); refine box_ 13 47 #[.int .i64 0, .int .i64 0, .int .i64 0] ?_; intro gb399 hg w176 hbox hb; have BK399 := Aside0.mk (hbox); have GW399 := G_ hg HB; have GE399 := G_ hg HB; have NB351_399 := Nl_ hg BK351; have NB399_351 := Ng_ hg BK351; have NB367_399 := Nl_ hg BK367; have NB399_367 := Ng_ hg BK367; have NB368_399 := Nl_ hg BK368; have NB399_368 := Ng_ hg BK368; replace HO_368001 := Rb_ HO_368001 hb; replace HO_368002 := Aside0.mk (Kd.R_below (Kd.R_elderB (R_ HO_368002) gb399 (Nat.le_of_eq hg.symm)) hb); replace HO_369001 := Rb_ HO_369001 hb; replace HO_369002 := Aside0.mk (Kd.R_below (Kd.R_elderB (R_ HO_369002) gb399 (Nat.le_of_eq hg.symm)) hb); replace BK351 := Bb_ BK351 hb; replace BK367 := Bb_ BK367 hb; replace BK368 := Bb_ BK368 hb; replace HB := Ls_ HB hb; clear hb hbox hg; have hnb177 := NB399_351.out; have hnc177 := NB351_399.out; have hnb178 := NB399_367.out; have hnc178 := NB367_399.out; have hnb179 := NB399_368.out; have hnc179 := NB368_399.out; have hcz180_0 : w176.cell? ⟨gb399, 0, none⟩ = some (.int .i64 0) := (blk_cell BK399.out 0).trans rfl; have hcz180_1 : w176.cell? ⟨gb399, 1, none⟩ = some (.int .i64 0) := (blk_cell BK399.out 1).trans rfl; have hcz180_2 : w176.cell? ⟨gb399, 2, none⟩ = some (.int .i64 0) := (blk_cell BK399.out 2).trans rfl; have hfz180_0 := blk_frozen BK399.out 0; have hfz180_1 := blk_frozen BK399.out 1; have hfz180_2 := blk_frozen BK399.out 2; have hcz181_0 : w176.cell? ⟨gb367, 0, none⟩ = some (.int .i64 t352) := (blk_cell BK367.out 0).trans rfl; have hcz181_1 : w176.cell? ⟨gb367, 1, none⟩ = some (.slice Ao27 t353.length co27) := (blk_cell BK367.out 1).trans rfl; have hcz181_2 : w176.cell? ⟨gb367, 2, none⟩ = some (.slice Ao29 t356.length co29) := (blk_cell BK367.out 2).trans rfl; have hfz181_0 := blk_frozen BK367.out 0; have hfz181_1 := blk_frozen BK367.out 1; have hfz181_2 := blk_frozen BK367.out 2) | ((with_reducible refine gate_callee (f := 15) rfl ?_); refine goesL_ (some 116) rfl rfl Try.func15 (by kernel_rfl) rfl #[.agg #[.int .i64 t352, .slice Ao27 t353.length co27, .slice Ao29 t356.length co29], .int .i64 (wrap64 (x101_4 - 1))] rfl M_ ?_; (with_reducible refine (vtimer_Sleeps.calls k4 t352 _ _ t353 _ _ t356 (wrap64 (x101_4 - 1)) t400 t401 _ ?side1 ?side2 ?side3 ?side4 A94.out).mono ?_); (case side1 => exact Rr_ HO_368001 BK399); (case side2 => exact (Kd.R_reads' HO_368001.out).2.1); (case side3 => refine (Kd.R_reads' (e := 47) (base := w.heap.size) (ok := fun k_ => (some k_ ≠ (.slice Ao34 t364.length co34 : Value).ownBlock ∧ k_ ≠ gb399)) (n := t356.length) (c := co29) ?_).2.2; exact (by (with_reducible repeat (first | apply Kd.R_alloc | apply Kd.R_drewN | apply Kd.R_drew)); exact (Kd.R_mono (Kd.R_far (p := ⟨gb399, 2, none⟩) (Kd.R_far (p := ⟨gb399, 1, none⟩) (Kd.R_far (p := ⟨gb399, 0, none⟩) (Kd.R_mono HO_368002.out (fun k_ hk => (⟨hk, hk.2⟩ : _ ∧ k_ ≠ gb399))) (fun _ hk => hk.2) (.int .i64 t394)) (fun _ hk => hk.2) (.int .i64 t395)) (fun _ hk => hk.2) (.int .i64 t396)) (fun _ h_ => h_.1)))); (case side4 => exact (Kd.R_reads' HO_368002.out).2.1); rintro e w182 ⟨rfl, hb⟩; refine ⟨_, rfl, ?_⟩; replace HO_368001 := Aside0.mk (Kd.R_below (Rf_ HO_368001 BK399) hb); replace HO_368002 := Aside0.mk (Kd.R_below (by (with_reducible repeat (first | apply Kd.R_alloc | apply Kd.R_drewN | apply Kd.R_drew)); exact (Kd.R_mono (Kd.R_far (p := ⟨gb399, 2, none⟩) (Kd.R_far (p := ⟨gb399, 1, none⟩) (Kd.R_far (p := ⟨gb399, 0, none⟩) (Kd.R_mono HO_368002.out (fun k_ hk => (⟨hk, hk.2⟩ : _ ∧ k_ ≠ gb399))) (fun _ hk => hk.2) (.int .i64 t394)) (fun _ hk => hk.2) (.int .i64 t395)) (fun _ hk => hk.2) (.int .i64 t396)) (fun _ h_ => h_.1))) hb); replace HO_369001 := Aside0.mk (Kd.R_below (Rf_ HO_369001 BK399) hb); replace HO_369002 := Aside0.mk (Kd.R_below (by (with_reducible repeat (first | apply Kd.R_alloc | apply Kd.R_drewN | apply Kd.R_drew)); exact (Kd.R_mono (Kd.R_far (p := ⟨gb399, 2, none⟩) (Kd.R_far (p := ⟨gb399, 1, none⟩) (Kd.R_far (p := ⟨gb399, 0, none⟩) (Kd.R_mono HO_369002.out (fun k_ hk => (⟨hk, hk.2⟩ : _ ∧ k_ ≠ gb399))) (fun _ hk => hk.2) (.int .i64 t394)) (fun _ hk => hk.2) (.int .i64 t395)) (fun _ hk => hk.2) (.int .i64 t396)) (fun _ h_ => h_.1))) hb); replace BK351 := Aside0.mk (blk_below (Bz_ BK351) hb); replace BK367 := Aside0.mk (blk_below (Bz_ BK367) hb); replace BK368 := Aside0.mk (blk_below (Bz_ BK368) hb); replace BK399 := Aside0.mk (blk_below (g := gb399) (o := .cells #[.int .i64 t394, .int .i64 t395, .int .i64 t396] 47 (0, 0)) (by (with_reducible repeat (first | refine blk_drewN ?_ _ | refine blk_drew ?_ | refine blk_alloc ?_ _)); refine blk_put (cs := #[.int .i64 t394, .int .i64 t395, .int .i64 0]) ?_ 2 _ rfl; (with_reducible repeat (first | refine blk_drewN ?_ _ | refine blk_drew ?_ | refine blk_alloc ?_ _)); refine blk_put (cs := #[.int .i64 t394, .int .i64 0, .int .i64 0]) ?_ 1 _ rfl; (with_reducible repeat (first | refine blk_drewN ?_ _ | refine blk_drew ?_ | refine blk_alloc ?_ _)); refine blk_put (cs := #[.int .i64 0, .int .i64 0, .int .i64 0]) ?_ 0 _ rfl; (with_reducible repeat (first | refine blk_drewN ?_ _ | refine blk_drew ?_ | refine blk_alloc ?_ _)); exact BK399.out) hb); replace HB := Ls_ HB hb; (try clear hb); (try clear hb2); (try clear hk); (try clear hi)) | ((with_reducible refine gate_dst (N := 18) rfl ?_); refine box_ 18 47 #[.int .i64 0, .int .i64 0, .int .i64 0] ?_; intro gb402 hg w183 hbox hb; have BK402 := Aside0.mk (hbox); have GW402 := G_ hg HB; have GE402 := G_ hg HB; have NB351_402 := Nl_ hg BK351; have NB402_351 := Ng_ hg BK351; have NB367_402 := Nl_ hg BK367; have NB402_367 := Ng_ hg BK367; have NB368_402 := Nl_ hg BK368; have NB402_368 := Ng_ hg BK368; have NB399_402 := Nl_ hg BK399; have NB402_399 := Ng_ hg BK399; replace HO_368001 := Rb_ HO_368001 hb; replace HO_368002 := Aside0.mk (Kd.R_below (Kd.R_elderB (R_ HO_368002) gb402 (Nat.le_of_eq hg.symm)) hb); replace HO_369001 := Rb_ HO_369001 hb; replace HO_369002 := Aside0.mk (Kd.R_below (Kd.R_elderB (R_ HO_369002) gb402 (Nat.le_of_eq hg.symm)) hb); replace BK351 := Bb_ BK351 hb; replace BK367 := Bb_ BK367 hb; replace BK368 := Bb_ BK368 hb; replace BK399 := Bb_ BK399 hb; replace HB := Ls_ HB hb; clear hb hbox hg; have hnb184 := NB367_402.out; have hnc184 := NB402_367.out; have hcz185_0 : w183.cell? ⟨gb367, 0, none⟩ = some (.int .i64 t352) := (blk_cell BK367.out 0).trans rfl; have hcz185_1 : w183.cell? ⟨gb367, 1, none⟩ = some (.slice Ao27 t353.length co27) := (blk_cell BK367.out 1).trans rfl; have hcz185_2 : w183.cell? ⟨gb367, 2, none⟩ = some (.slice Ao29 t356.length co29) := (blk_cell BK367.out 2).trans rfl; have hfz185_0 := blk_frozen BK367.out 0; have hfz185_1 := blk_frozen BK367.out 1; have hfz185_2 := blk_frozen BK367.out 2) | ((with_reducible refine gate_callee (f := 19) rfl ?_); refine goesL_ (some 124) rfl rfl Try.func19 (by kernel_rfl) rfl #[.agg #[.int .i64 t352, .slice Ao27 t353.length co27, .slice Ao29 t356.length co29], .int .i64 (wrap64 (x101_4 - 1))] rfl M_ ?_; (with_reducible refine (mainsheetref18_Get.calls k4 t352 _ _ t353 _ _ t356 (wrap64 (x101_4 - 1)) t403 t404 t405 t406 t407 _ ?side1 ?side2 ?side3 ?side4 A96.out).mono ?_); (case side1 => exact Rs_ HO_368001); (case side2 => exact (Kd.R_reads' HO_368001.out).2.1); (case side3 => exact Rs_ HO_368002); (case side4 => exact (Kd.R_reads' HO_368002.out).2.1); rintro e w186 ⟨rfl, hb⟩; refine ⟨_, rfl, ?_⟩; replace HO_368001 := Rb_ HO_368001 hb; replace HO_368002 := Rb_ HO_368002 hb; replace HO_369001 := Rb_ HO_369001 hb; replace HO_369002 := Rb_ HO_369002 hb; replace BK351 := Bb_ BK351 hb; replace BK367 := Bb_ BK367 hb; replace BK368 := Bb_ BK368 hb; replace BK399 := Bb_ BK399 hb; replace BK402 := Bb_ BK402 hb; replace HB := Ls_ HB hb; (try clear hb); (try clear hb2); (try clear hk); (try clear hi); have hnb187 := NB402_351.out; have hnc187 := NB351_402.out; have hnb188 := NB402_368.out; have hnc188 := NB368_402.out; have hnb189 := NB402_399.out; have hnc189 := NB399_402.out; have hcz190_0 : w186.cell? ⟨gb402, 0, none⟩ = some (.int .i64 0) := (blk_cell BK402.out 0).trans rfl; have hcz190_1 : w186.cell? ⟨gb402, 1, none⟩ = some (.int .i64 0) := (blk_cell BK402.out 1).trans rfl; have hcz190_2 : w186.cell? ⟨gb402, 2, none⟩ = some (.int .i64 0) := (blk_cell BK402.out 2).trans rfl; have hfz190_0 := blk_frozen BK402.out 0; have hfz190_1 := blk_frozen BK402.out 1; have hfz190_2 := blk_frozen BK402.out 2; have hcz191_0 : w186.cell? ⟨gb367, 0, none⟩ = some (.int .i64 t352) := (blk_cell BK367.out 0).trans rfl; have hcz191_1 : w186.cell? ⟨gb367, 1, none⟩ = some (.slice Ao27 t353.length co27) := (blk_cell BK367.out 1).trans rfl; have hcz191_2 : w186.cell? ⟨gb367, 2, none⟩ = some (.slice Ao29 t356.length co29) := (blk_cell BK367.out 2).trans rfl; have hfz191_0 := blk_frozen BK367.out 0; have hfz191_1 := blk_frozen BK367.out 1; have hfz191_2 := blk_frozen BK367.out 2) | ((with_reducible refine gate_callee (f := 20) rfl ?_); refine goesL_ (some 131) rfl rfl Try.func20 (by kernel_rfl) rfl #[.agg #[.int .i64 t352, .slice Ao27 t353.length co27, .slice Ao29 t356.length co29], .int .i64 (wrap64 (x101_4 - 1))] rfl M_ ?_; (with_reducible refine (mainsheetref18_Sleeps.calls k4 t352 _ _ t353 _ _ t356 (wrap64 (x101_4 - 1)) t408 _ ?side1 ?side2 ?side3 ?side4 A97.out).mono ?_); (case side1 => exact Rr_ HO_368001 BK402); (case side2 => exact (Kd.R_reads' HO_368001.out).2.1); (case side3 => refine (Kd.R_reads' (e := 47) (base := w.heap.size) (ok := fun k_ => ((some k_ ≠ (.slice Ao34 t364.length co34 : Value).ownBlock ∧ k_ ≠ gb399) ∧ k_ ≠ gb402)) (n := t356.length) (c := co29) ?_).2.2; exact (by (with_reducible repeat (first | apply Kd.R_alloc | apply Kd.R_drewN | apply Kd.R_drew)); exact (Kd.R_mono (Kd.R_far (p := ⟨gb402, 2, none⟩) (Kd.R_far (p := ⟨gb402, 1, none⟩) (Kd.R_far (p := ⟨gb402, 0, none⟩) (Kd.R_mono HO_368002.out (fun k_ hk => (⟨hk, hk.2⟩ : _ ∧ k_ ≠ gb402))) (fun _ hk => hk.2) (.int .i64 t403)) (fun _ hk => hk.2) (.int .i64 t404)) (fun _ hk => hk.2) (.int .i64 t405)) (fun _ h_ => h_.1)))); (case side4 => exact (Kd.R_reads' HO_368002.out).2.1); rintro e w192 ⟨rfl, hb⟩; refine ⟨_, rfl, ?_⟩; replace HO_368001 := Aside0.mk (Kd.R_below (Rf_ HO_368001 BK402) hb); replace HO_368002 := Aside0.mk (Kd.R_below (by (with_reducible repeat (first | apply Kd.R_alloc | apply Kd.R_drewN | apply Kd.R_drew)); exact (Kd.R_mono (Kd.R_far (p := ⟨gb402, 2, none⟩) (Kd.R_far (p := ⟨gb402, 1, none⟩) (Kd.R_far (p := ⟨gb402, 0, none⟩) (Kd.R_mono HO_368002.out (fun k_ hk => (⟨hk, hk.2⟩ : _ ∧ k_ ≠ gb402))) (fun _ hk => hk.2) (.int .i64 t403)) (fun _ hk => hk.2) (.int .i64 t404)) (fun _ hk => hk.2) (.int .i64 t405)) (fun _ h_ => h_.1))) hb); replace HO_369001 := Aside0.mk (Kd.R_below (Rf_ HO_369001 BK402) hb); replace HO_369002 := Aside0.mk (Kd.R_below (by (with_reducible repeat (first | apply Kd.R_alloc | apply Kd.R_drewN | apply Kd.R_drew)); exact (Kd.R_mono (Kd.R_far (p := ⟨gb402, 2, none⟩) (Kd.R_far (p := ⟨gb402, 1, none⟩) (Kd.R_far (p := ⟨gb402, 0, none⟩) (Kd.R_mono HO_369002.out (fun k_ hk => (⟨hk, hk.2⟩ : _ ∧ k_ ≠ gb402))) (fun _ hk => hk.2) (.int .i64 t403)) (fun _ hk => hk.2) (.int .i64 t404)) (fun _ hk => hk.2) (.int .i64 t405)) (fun _ h_ => h_.1))) hb); replace BK351 := Aside0.mk (blk_below (Bz_ BK351) hb); replace BK367 := Aside0.mk (blk_below (Bz_ BK367) hb); replace BK368 := Aside0.mk (blk_below (Bz_ BK368) hb); replace BK399 := Aside0.mk (blk_below (Bz_ BK399) hb); replace BK402 := Aside0.mk (blk_below (g := gb402) (o := .cells #[.int .i64 t403, .int .i64 t404, .int .i64 t405] 47 (0, 0)) (by (with_reducible repeat (first | refine blk_drewN ?_ _ | refine blk_drew ?_ | refine blk_alloc ?_ _)); refine blk_put (cs := #[.int .i64 t403, .int .i64 t404, .int .i64 0]) ?_ 2 _ rfl; (with_reducible repeat (first | refine blk_drewN ?_ _ | refine blk_drew ?_ | refine blk_alloc ?_ _)); refine blk_put (cs := #[.int .i64 t403, .int .i64 0, .int .i64 0]) ?_ 1 _ rfl; (with_reducible repeat (first | refine blk_drewN ?_ _ | refine blk_drew ?_ | refine blk_alloc ?_ _)); refine blk_put (cs := #[.int .i64 0, .int .i64 0, .int .i64 0]) ?_ 0 _ rfl; (with_reducible repeat (first | refine blk_drewN ?_ _ | refine blk_drew ?_ | refine blk_alloc ?_ _)); exact BK402.out) hb); replace HB := Ls_ HB hb; (try clear hb); (try clear hb2); (try clear hk); (try clear hi); have hcz193_0 : w192.cell? ⟨gb399, 0, none⟩ = some (.int .i64 t394) := (blk_cell BK399.out 0).trans rfl; have hcz193_1 : w192.cell? ⟨gb399, 1, none⟩ = some (.int .i64 t395) := (blk_cell BK399.out 1).trans rfl; have hcz193_2 : w192.cell? ⟨gb399, 2, none⟩ = some (.int .i64 t396) := (blk_cell BK399.out 2).trans rfl; have hfz193_0 := blk_frozen BK399.out 0; have hfz193_1 := blk_frozen BK399.out 1; have hfz193_2 := blk_frozen BK399.out 2; have hcz194_0 : w192.cell? ⟨gb402, 0, none⟩ = some (.int .i64 t403) := (blk_cell BK402.out 0).trans rfl; have hcz194_1 : w192.cell? ⟨gb402, 1, none⟩ = some (.int .i64 t404) := (blk_cell BK402.out 1).trans rfl; have hcz194_2 : w192.cell? ⟨gb402, 2, none⟩ = some (.int .i64 t405) := (blk_cell BK402.out 2).trans rfl; have hfz194_0 := blk_frozen BK402.out 0; have hfz194_1 := blk_frozen BK402.out 1; have hfz194_2 := blk_frozen BK402.out 2))
                                       go_roundg k4
                                       case measure => have := HK1.out; have := HJ15.out; have := HJ79.out; have := HK4.out; omega
                                       case rel => exact ⟨(wrap64 (x101_4 + 1)), S_, H', ⟨by have := HK1.out; have := HJ15.out; have := HJ79.out; have := HK4.out; omega⟩, ⟨R_ HO_368001⟩, ⟨by (with_reducible repeat (first | apply Kd.R_alloc | apply Kd.R_drewN | apply Kd.R_drew)); exact Kd.R_mono HO_368002.out (fun _ hk => hk.1.1)⟩, ⟨R_ HO_369001⟩, ⟨by (with_reducible repeat (first | apply Kd.R_alloc | apply Kd.R_drewN | apply Kd.R_drew)); exact Kd.R_mono HO_369002.out (fun _ hk => hk.1.1)⟩, ⟨B_ BK351⟩, ⟨B_ BK367⟩, ⟨B_ BK368⟩, ⟨L_⟩⟩
                                   · rw [if_neg c147] at H
                                     have c147b0 : (t400 == t408) = false := beq_eq_false_iff_ne.mpr c147
                                     have c147b1 : (t400 != t408) = true := bne_iff_ne.mpr c147
                                     exact absurd ((Option.some.inj H).trans hr_) (by decide) -- leaf 7
                               · rw [if_neg c122] at H
                                 have c122b0 : (t397 == t406) = false := beq_eq_false_iff_ne.mpr c122
                                 have c122b1 : (t397 != t406) = true := bne_iff_ne.mpr c122
                                 exact absurd ((Option.some.inj H).trans hr_) (by decide) -- leaf 8
                           · replace c95 := Bool.eq_false_iff.mpr c95
                             subst c95
                             have H1 : (if (!(t394 == 0) || (!(t395 == 0) || (!(t396 == 0)))) = true then (some false) else (if t397 = 0 then (if (t398 != false) = true then (some false) else (if t400 = 0 then (if (t401 != (decide (0 > 0))) = true then (some false) else (mainsheetlaw18_VtimerTells.l1 k4 l0 false l0 (l0.length : Int) x26_1 (wrap64 (x101_4 + 1)) t352 t353 t356)) else (some false))) else (some false))) = some r := by rw [if_neg (show ¬ (false = true) by decide)] at H; exact H
                             clear H
                             have H := H1
                             clear H1
                             by_cases c241 : (!(t394 == 0) || (!(t395 == 0) || (!(t396 == 0)))) = true
                             · rw [if_pos c241] at H
                               have c241b0 : (!(t394 == 0) || (!(t395 == 0) || (!(t396 == 0)))) = true := c241
                               clear c241
                               exact absurd ((Option.some.inj H).trans hr_) (by decide) -- leaf 9
                             · rw [if_neg c241] at H
                               have c241b0 : (!(t394 == 0) || (!(t395 == 0) || (!(t396 == 0)))) = false := by simpa using c241
                               clear c241
                               by_cases c260 : t397 = 0
                               · rw [if_pos c260] at H
                                 have c260b0 : (t397 == 0) = true := beq_iff_eq.mpr c260
                                 have c260b1 : (t397 != 0) = false := bne_eq_false_iff_eq.mpr c260
                                 clear c260
                                 by_cases c261 : (t398 != false) = true
                                 · rw [if_pos c261] at H
                                   have c261b0 : (t398 != false) = true := c261
                                   (try (have c261b1 : decide (t398 = false) = false := by simpa using c261))
                                   (try (have c261b2 : (t398 == false) = false := by simpa using c261))
                                   (try (have c261b3 : ¬ (t398 = false) := by simpa using c261))
                                   clear c261
                                   exact absurd ((Option.some.inj H).trans hr_) (by decide) -- leaf 10
                                 · rw [if_neg c261] at H
                                   have c261b0 : (t398 != false) = false := by simpa using c261
                                   (try (have c261b1 : decide (t398 = false) = true := by simpa using c261))
                                   (try (have c261b2 : (t398 == false) = true := by simpa using c261))
                                   clear c261
                                   by_cases c280 : t400 = 0
                                   · rw [if_pos c280] at H
                                     have c280b0 : (t400 == 0) = true := beq_iff_eq.mpr c280
                                     have c280b1 : (t400 != 0) = false := bne_eq_false_iff_eq.mpr c280
                                     clear c280
                                     by_cases c281 : (t401 != (decide (0 > 0))) = true
                                     · rw [if_pos c281] at H
                                       have c281b0 : (t401 != (decide (0 > 0))) = true := c281
                                       (try (have c281b1 : decide (t401 = (decide (0 > 0))) = false := by simpa using c281))
                                       (try (have c281b2 : (t401 == (decide (0 > 0))) = false := by simpa using c281))
                                       (try (have c281b3 : ¬ (t401 = (decide (0 > 0))) := by simpa using c281))
                                       clear c281
                                       exact absurd ((Option.some.inj H).trans hr_) (by decide) -- leaf 11
                                     · rw [if_neg c281] at H
                                       have c281b0 : (t401 != (decide (0 > 0))) = false := by simpa using c281
                                       have c281x : t401 = false := by simpa using c281
                                       (try (have c281b1 : decide (t401 = (decide (0 > 0))) = true := by simpa using c281))
                                       (try (have c281b2 : (t401 == (decide (0 > 0))) = true := by simpa using c281))
                                       clear c281
                                       have H' := Aside0.mk H
                                       clear H
                                       have hnb300 := NB367_351.out
                                       have hnc300 := NB351_367.out
                                       have hnb301 := NB367_368.out
                                       have hnc301 := NB368_367.out
                                       have hcz302_0 : wr.cell? ⟨gb367, 0, none⟩ = some (.int .i64 t352) := (blk_cell BK367.out 0).trans rfl
                                       have hcz302_1 : wr.cell? ⟨gb367, 1, none⟩ = some (.slice Ao27 t353.length co27) := (blk_cell BK367.out 1).trans rfl
                                       have hcz302_2 : wr.cell? ⟨gb367, 2, none⟩ = some (.slice Ao29 t356.length co29) := (blk_cell BK367.out 2).trans rfl
                                       have hfz302_0 := blk_frozen BK367.out 0
                                       have hfz302_1 := blk_frozen BK367.out 1
                                       have hfz302_2 := blk_frozen BK367.out 2
                                       go_wp2_with (first | ((with_reducible refine gate_callee (f := 14) rfl ?_); refine goesL_ (some 108) rfl rfl Try.func14 (by kernel_rfl) rfl #[.agg #[.int .i64 t352, .slice Ao27 t353.length co27, .slice Ao29 t356.length co29], .int .i64 (wrap64 (x101_4 - 1))] rfl M_ ?_; (with_reducible refine (vtimer_Get.calls k4 t352 _ _ t353 _ _ t356 (wrap64 (x101_4 - 1)) t394 t395 t396 t397 t398 _ ?side1 ?side2 ?side3 ?side4 A93.out).mono ?_); (case side1 => exact Rs_ HO_368001); (case side2 => exact (Kd.R_reads' HO_368001.out).2.1); (case side3 => exact Rs_ HO_368002); (case side4 => exact (Kd.R_reads' HO_368002.out).2.1); rintro e w303 ⟨rfl, hb⟩; refine ⟨_, rfl, ?_⟩; replace HO_368001 := Rb_ HO_368001 hb; replace HO_368002 := Rb_ HO_368002 hb; replace HO_369001 := Rb_ HO_369001 hb; replace HO_369002 := Rb_ HO_369002 hb; replace BK351 := Bb_ BK351 hb; replace BK367 := Bb_ BK367 hb; replace BK368 := Bb_ BK368 hb; replace HB := Ls_ HB hb; (try clear hb); (try clear hb2); (try clear hk); (try clear hi)) | ((with_reducible refine gate_dst (N := 13) rfl ?_); refine box_ 13 47 #[.int .i64 0, .int .i64 0, .int .i64 0] ?_; intro gb399 hg w304 hbox hb; have BK399 := Aside0.mk (hbox); have GW399 := G_ hg HB; have GE399 := G_ hg HB; have NB351_399 := Nl_ hg BK351; have NB399_351 := Ng_ hg BK351; have NB367_399 := Nl_ hg BK367; have NB399_367 := Ng_ hg BK367; have NB368_399 := Nl_ hg BK368; have NB399_368 := Ng_ hg BK368; replace HO_368001 := Rb_ HO_368001 hb; replace HO_368002 := Aside0.mk (Kd.R_below (Kd.R_elderB (R_ HO_368002) gb399 (Nat.le_of_eq hg.symm)) hb); replace HO_369001 := Rb_ HO_369001 hb; replace HO_369002 := Aside0.mk (Kd.R_below (Kd.R_elderB (R_ HO_369002) gb399 (Nat.le_of_eq hg.symm)) hb); replace BK351 := Bb_ BK351 hb; replace BK367 := Bb_ BK367 hb; replace BK368 := Bb_ BK368 hb; replace HB := Ls_ HB hb; clear hb hbox hg; have hnb305 := NB399_351.out; have hnc305 := NB351_399.out; have hnb306 := NB399_367.out; have hnc306 := NB367_399.out; have hnb307 := NB399_368.out; have hnc307 := NB368_399.out; have hcz308_0 : w304.cell? ⟨gb399, 0, none⟩ = some (.int .i64 0) := (blk_cell BK399.out 0).trans rfl; have hcz308_1 : w304.cell? ⟨gb399, 1, none⟩ = some (.int .i64 0) := (blk_cell BK399.out 1).trans rfl; have hcz308_2 : w304.cell? ⟨gb399, 2, none⟩ = some (.int .i64 0) := (blk_cell BK399.out 2).trans rfl; have hfz308_0 := blk_frozen BK399.out 0; have hfz308_1 := blk_frozen BK399.out 1; have hfz308_2 := blk_frozen BK399.out 2; have hcz309_0 : w304.cell? ⟨gb367, 0, none⟩ = some (.int .i64 t352) := (blk_cell BK367.out 0).trans rfl; have hcz309_1 : w304.cell? ⟨gb367, 1, none⟩ = some (.slice Ao27 t353.length co27) := (blk_cell BK367.out 1).trans rfl; have hcz309_2 : w304.cell? ⟨gb367, 2, none⟩ = some (.slice Ao29 t356.length co29) := (blk_cell BK367.out 2).trans rfl; have hfz309_0 := blk_frozen BK367.out 0; have hfz309_1 := blk_frozen BK367.out 1; have hfz309_2 := blk_frozen BK367.out 2) | ((with_reducible refine gate_callee (f := 15) rfl ?_); refine goesL_ (some 116) rfl rfl Try.func15 (by kernel_rfl) rfl #[.agg #[.int .i64 t352, .slice Ao27 t353.length co27, .slice Ao29 t356.length co29], .int .i64 (wrap64 (x101_4 - 1))] rfl M_ ?_; (with_reducible refine (vtimer_Sleeps.calls k4 t352 _ _ t353 _ _ t356 (wrap64 (x101_4 - 1)) t400 t401 _ ?side1 ?side2 ?side3 ?side4 A94.out).mono ?_); (case side1 => exact Rr_ HO_368001 BK399); (case side2 => exact (Kd.R_reads' HO_368001.out).2.1); (case side3 => refine (Kd.R_reads' (e := 47) (base := w.heap.size) (ok := fun k_ => (some k_ ≠ (.slice Ao34 t364.length co34 : Value).ownBlock ∧ k_ ≠ gb399)) (n := t356.length) (c := co29) ?_).2.2; exact (by (with_reducible repeat (first | apply Kd.R_alloc | apply Kd.R_drewN | apply Kd.R_drew)); exact (Kd.R_mono (Kd.R_far (p := ⟨gb399, 2, none⟩) (Kd.R_far (p := ⟨gb399, 1, none⟩) (Kd.R_far (p := ⟨gb399, 0, none⟩) (Kd.R_mono HO_368002.out (fun k_ hk => (⟨hk, hk.2⟩ : _ ∧ k_ ≠ gb399))) (fun _ hk => hk.2) (.int .i64 t394)) (fun _ hk => hk.2) (.int .i64 t395)) (fun _ hk => hk.2) (.int .i64 t396)) (fun _ h_ => h_.1)))); (case side4 => exact (Kd.R_reads' HO_368002.out).2.1); rintro e w310 ⟨rfl, hb⟩; refine ⟨_, rfl, ?_⟩; replace HO_368001 := Aside0.mk (Kd.R_below (Rf_ HO_368001 BK399) hb); replace HO_368002 := Aside0.mk (Kd.R_below (by (with_reducible repeat (first | apply Kd.R_alloc | apply Kd.R_drewN | apply Kd.R_drew)); exact (Kd.R_mono (Kd.R_far (p := ⟨gb399, 2, none⟩) (Kd.R_far (p := ⟨gb399, 1, none⟩) (Kd.R_far (p := ⟨gb399, 0, none⟩) (Kd.R_mono HO_368002.out (fun k_ hk => (⟨hk, hk.2⟩ : _ ∧ k_ ≠ gb399))) (fun _ hk => hk.2) (.int .i64 t394)) (fun _ hk => hk.2) (.int .i64 t395)) (fun _ hk => hk.2) (.int .i64 t396)) (fun _ h_ => h_.1))) hb); replace HO_369001 := Aside0.mk (Kd.R_below (Rf_ HO_369001 BK399) hb); replace HO_369002 := Aside0.mk (Kd.R_below (by (with_reducible repeat (first | apply Kd.R_alloc | apply Kd.R_drewN | apply Kd.R_drew)); exact (Kd.R_mono (Kd.R_far (p := ⟨gb399, 2, none⟩) (Kd.R_far (p := ⟨gb399, 1, none⟩) (Kd.R_far (p := ⟨gb399, 0, none⟩) (Kd.R_mono HO_369002.out (fun k_ hk => (⟨hk, hk.2⟩ : _ ∧ k_ ≠ gb399))) (fun _ hk => hk.2) (.int .i64 t394)) (fun _ hk => hk.2) (.int .i64 t395)) (fun _ hk => hk.2) (.int .i64 t396)) (fun _ h_ => h_.1))) hb); replace BK351 := Aside0.mk (blk_below (Bz_ BK351) hb); replace BK367 := Aside0.mk (blk_below (Bz_ BK367) hb); replace BK368 := Aside0.mk (blk_below (Bz_ BK368) hb); replace BK399 := Aside0.mk (blk_below (g := gb399) (o := .cells #[.int .i64 t394, .int .i64 t395, .int .i64 t396] 47 (0, 0)) (by (with_reducible repeat (first | refine blk_drewN ?_ _ | refine blk_drew ?_ | refine blk_alloc ?_ _)); refine blk_put (cs := #[.int .i64 t394, .int .i64 t395, .int .i64 0]) ?_ 2 _ rfl; (with_reducible repeat (first | refine blk_drewN ?_ _ | refine blk_drew ?_ | refine blk_alloc ?_ _)); refine blk_put (cs := #[.int .i64 t394, .int .i64 0, .int .i64 0]) ?_ 1 _ rfl; (with_reducible repeat (first | refine blk_drewN ?_ _ | refine blk_drew ?_ | refine blk_alloc ?_ _)); refine blk_put (cs := #[.int .i64 0, .int .i64 0, .int .i64 0]) ?_ 0 _ rfl; (with_reducible repeat (first | refine blk_drewN ?_ _ | refine blk_drew ?_ | refine blk_alloc ?_ _)); exact BK399.out) hb); replace HB := Ls_ HB hb; (try clear hb); (try clear hb2); (try clear hk); (try clear hi)) | ((with_reducible refine gate_dst (N := 18) rfl ?_); refine box_ 18 47 #[.int .i64 0, .int .i64 0, .int .i64 0] ?_; intro gb402 hg w311 hbox hb; have BK402 := Aside0.mk (hbox); have GW402 := G_ hg HB; have GE402 := G_ hg HB; have NB351_402 := Nl_ hg BK351; have NB402_351 := Ng_ hg BK351; have NB367_402 := Nl_ hg BK367; have NB402_367 := Ng_ hg BK367; have NB368_402 := Nl_ hg BK368; have NB402_368 := Ng_ hg BK368; have NB399_402 := Nl_ hg BK399; have NB402_399 := Ng_ hg BK399; replace HO_368001 := Rb_ HO_368001 hb; replace HO_368002 := Aside0.mk (Kd.R_below (Kd.R_elderB (R_ HO_368002) gb402 (Nat.le_of_eq hg.symm)) hb); replace HO_369001 := Rb_ HO_369001 hb; replace HO_369002 := Aside0.mk (Kd.R_below (Kd.R_elderB (R_ HO_369002) gb402 (Nat.le_of_eq hg.symm)) hb); replace BK351 := Bb_ BK351 hb; replace BK367 := Bb_ BK367 hb; replace BK368 := Bb_ BK368 hb; replace BK399 := Bb_ BK399 hb; replace HB := Ls_ HB hb; clear hb hbox hg; have hnb312 := NB399_402.out; have hnc312 := NB402_399.out; have hcz313_0 : w311.cell? ⟨gb399, 0, none⟩ = some (.int .i64 t394) := (blk_cell BK399.out 0).trans rfl; have hcz313_1 : w311.cell? ⟨gb399, 1, none⟩ = some (.int .i64 t395) := (blk_cell BK399.out 1).trans rfl; have hcz313_2 : w311.cell? ⟨gb399, 2, none⟩ = some (.int .i64 t396) := (blk_cell BK399.out 2).trans rfl; have hfz313_0 := blk_frozen BK399.out 0; have hfz313_1 := blk_frozen BK399.out 1; have hfz313_2 := blk_frozen BK399.out 2; have hnb314 := NB402_351.out; have hnc314 := NB351_402.out; have hnb315 := NB402_367.out; have hnc315 := NB367_402.out; have hnb316 := NB402_368.out; have hnc316 := NB368_402.out; have hcz317_0 : w311.cell? ⟨gb402, 0, none⟩ = some (.int .i64 0) := (blk_cell BK402.out 0).trans rfl; have hcz317_1 : w311.cell? ⟨gb402, 1, none⟩ = some (.int .i64 0) := (blk_cell BK402.out 1).trans rfl; have hcz317_2 : w311.cell? ⟨gb402, 2, none⟩ = some (.int .i64 0) := (blk_cell BK402.out 2).trans rfl; have hfz317_0 := blk_frozen BK402.out 0; have hfz317_1 := blk_frozen BK402.out 1; have hfz317_2 := blk_frozen BK402.out 2))
                                       go_roundg k4
                                       case measure => have := HK1.out; have := HJ15.out; have := HJ79.out; have := HK4.out; omega
                                       case rel => exact ⟨(wrap64 (x101_4 + 1)), S_, H', ⟨by have := HK1.out; have := HJ15.out; have := HJ79.out; have := HK4.out; omega⟩, ⟨R_ HO_368001⟩, ⟨by (with_reducible repeat (first | apply Kd.R_alloc | apply Kd.R_drewN | apply Kd.R_drew)); exact Kd.R_mono HO_368002.out (fun _ hk => hk.1.1)⟩, ⟨R_ HO_369001⟩, ⟨by (with_reducible repeat (first | apply Kd.R_alloc | apply Kd.R_drewN | apply Kd.R_drew)); exact Kd.R_mono HO_369002.out (fun _ hk => hk.1.1)⟩, ⟨B_ BK351⟩, ⟨B_ BK367⟩, ⟨B_ BK368⟩, ⟨L_⟩⟩
                                   · rw [if_neg c280] at H
                                     have c280b0 : (t400 == 0) = false := beq_eq_false_iff_ne.mpr c280
                                     have c280b1 : (t400 != 0) = true := bne_iff_ne.mpr c280
                                     exact absurd ((Option.some.inj H).trans hr_) (by decide) -- leaf 12
                               · rw [if_neg c260] at H
                                 have c260b0 : (t397 == 0) = false := beq_eq_false_iff_ne.mpr c260
                                 have c260b1 : (t397 != 0) = true := bne_iff_ne.mpr c260
                                 exact absurd ((Option.some.inj H).trans hr_) (by decide) -- leaf 13
                         · rw [if_neg c92] at H
                           have c92b0 : decide (x101_4 < 19) = false := decide_eq_false c92
                           clear c92
                           have H' := Aside0.mk H
                           clear H
                           go_wp2
                           go_roundg k4
                           case measure => have := HK1.out; have := HJ15.out; have := HJ79.out; have := HK4.out; omega
                           case rel => exact ⟨(wrap64 (x26_1 + 1)), S_, H', ⟨by have := HK1.out; have := HJ15.out; have := HJ79.out; have := HK4.out; omega⟩, ⟨L_⟩⟩
             · rw [if_neg c12] at H
               exact absurd H (by simp)
         · rw [if_neg c7] at H
           exact absurd H (by simp)
       · rw [if_neg c6] at H
         exact absurd H (by simp)
     · rw [if_neg c5] at H
       have c5b0 : decide (x26_1 < (l0.length : Int)) = false := decide_eq_false c5
       clear c5
       obtain rfl := Option.some.inj H
       go_wp2
       go_ret
       exact ⟨E_, L_⟩
 · replace c3 := Bool.eq_false_iff.mpr c3
   subst c3
   have H1 : (some false) = some r := by rw [if_neg (show ¬ (false = true) by decide)] at H; exact H
   clear H
   have H := H1
   clear H1
   exact absurd ((Option.some.inj H).trans hr_) (by decide) -- leaf 15
end Go.Proofs.Ytlddekjlmkimnaa.C
