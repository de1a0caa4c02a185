-- Written by a program of this session (wip/tools/stub.py, over the kit's print) and by hand; not the kit's print.
import Derived.Test.YtolaaplnoahnkaaC0
import Derived.Test.YtolaaplnoahnkaaC3
import Derived.Test.YtolaaplnoahnkaaC12
import Derived.Test.YtolaaplnoahnkaaCcop
import Derived.Test.YtolaaplnoahnkaaCsame
import Derived.Test.YtolaaplnoahnkaaCdig
import Derived.Test.YtolaaplnoahnkaaHslot
namespace Go.Proofs.Ytolaaplnoahnkaa.C
open Go.RowKit Go.Proofs.YtolaaplnoahnkaaW.PrintWords Go.Proofs.YtolaaplnoahnkaaW.PrintLast Go.Proofs.YtolaaplnoahnkaaW.PrintMore
attribute [local go_sem] max2_int min2_int max_two min_two max_three min_three max_four min_four   -- for this text's walks alone
set_option linter.unusedVariables false
set_option linter.unusedSimpArgs false

/-! ### mainsheetlaw15_WheelTells: function 5 -/
mutual
def mainsheetlaw15_WheelTells.j0 : Nat → Bool → Int → List (S33) → Int → List (S33) → Int → Int → Option (Bool)
  | 0, _, _, _, _, _, _, _ => none
  | k + 1, x30, x308000, x308001, x309000, x309001, x310000, x310001 => if x30 = true then (some true) else ((mainsheetref15_Right.f k x308000 x308001).bind fun t311 => ((mainsheetlaw15_copied.f x308000 x308001).bind fun bt312 => ((wheel_Check.f k bt312.1 bt312.2).bind fun t316 => (if (t311 != (t316 == 0)) = true then (mainsheetlaw15_WheelTells.j1 k t311 true x308000 x308001 x310000 x310001) else (if t311 = true then ((wheel_Same.f k x308000 x308001 x309000 x309001).bind fun t317 => ((mainsheetref15_Same.f k x308000 x308001 x309000 x309001).bind fun t318 => (if (t317 != t318) = true then (mainsheetlaw15_WheelTells.j1 k t311 true x308000 x308001 x310000 x310001) else ((mainsheetlaw15_copied.f x308000 x308001).bind fun bt319 => ((wheel_Same.f k x308000 x308001 bt319.1 bt319.2).bind fun t323 => (mainsheetlaw15_WheelTells.j1 k t311 (!t323) x308000 x308001 x310000 x310001)))))) else (if t316 = 250 then ((wheel_Same.f k x308000 x308001 x309000 x309001).bind fun t324 => ((mainsheetref15_Same.f k x308000 x308001 x309000 x309001).bind fun t325 => (if (t324 != t325) = true then (mainsheetlaw15_WheelTells.j1 k t311 true x308000 x308001 x310000 x310001) else ((mainsheetlaw15_copied.f x308000 x308001).bind fun bt326 => ((wheel_Same.f k x308000 x308001 bt326.1 bt326.2).bind fun t330 => (mainsheetlaw15_WheelTells.j1 k t311 (!t330) x308000 x308001 x310000 x310001)))))) else (mainsheetlaw15_WheelTells.j1 k t311 true x308000 x308001 x310000 x310001)))))))
def mainsheetlaw15_WheelTells.j1 : Nat → Bool → Bool → Int → List (S33) → Int → Int → Option (Bool)
  | 0, _, _, _, _, _, _ => none
  | k + 1, x7, x63, x308000, x308001, x310000, x310001 => if x63 = true then (some false) else (mainsheetlaw15_WheelTells.l0 k x7 ([] : List Int) x308001 (x308001.length : Int) 0 x308000 x308001 x310000 x310001)
def mainsheetlaw15_WheelTells.l0 : Nat → Bool → List Int → List (S33) → Int → Int → Int → List (S33) → Int → Int → Option (Bool)
  | 0, _, _, _, _, _, _, _, _, _ => none
  | k + 1, x7, x9, x65, x66, x67, x308000, x308001, x310000, x310001 => if x67 < x66 then (if 0 ≤ x67 then (if x67 < (x65.length : Int) then ((wheel_Place.f x308000 x308001 ((rd_T33 x65 x67).f0)).bind fun bt333 => (if x7 = true then ((mainsheetref15_Place.f k x308000 ((rd_T33 x65 x67).f1)).bind fun bt336 => (if bt333.1 = bt336.1 then (if bt333.2.1 = bt336.2 then (mainsheetlaw15_WheelTells.j3 k x7 x9 bt336.1 bt336.2 x65 x66 x67 (!bt333.2.2) x308000 x308001 x310000 x310001 ((rd_T33 x65 x67).f0) ((rd_T33 x65 x67).f1)) else (mainsheetlaw15_WheelTells.j3 k x7 x9 bt336.1 bt336.2 x65 x66 x67 true x308000 x308001 x310000 x310001 ((rd_T33 x65 x67).f0) ((rd_T33 x65 x67).f1))) else (mainsheetlaw15_WheelTells.j3 k x7 x9 bt336.1 bt336.2 x65 x66 x67 true x308000 x308001 x310000 x310001 ((rd_T33 x65 x67).f0) ((rd_T33 x65 x67).f1)))) else (if bt333.1 = 0 then (if bt333.2.1 = 0 then (if bt333.2.2 = true then (some false) else (mainsheetlaw15_WheelTells.l0 k x7 x9 x65 x66 (wrap64 (x67 + 1)) x308000 x308001 x310000 x310001)) else (some false)) else (some false)))) else (none)) else (none)) else ((wheel_Slot.f x308000 x308001 x310000 x310001).bind fun t341 => (if (t341.length : Int) = (x9.length : Int) then (mainsheetlaw15_WheelTells.l1 k x9 t341 (t341.length : Int) 0) else (some false)))
def mainsheetlaw15_WheelTells.j3 : Nat → Bool → List Int → Int → Int → List (S33) → Int → Int → Bool → Int → List (S33) → Int → Int → Int → Int → Option (Bool)
  | 0, _, _, _, _, _, _, _, _, _, _, _, _, _, _ => none
  | k + 1, x7, x9, x15, x16, x65, x66, x67, x109, x308000, x308001, x310000, x310001, x333000, x333001 => if x109 = true then (some false) else (if x15 = x310000 then (if x16 = x310001 then (if x9.length < 17592186044416 then (mainsheetlaw15_WheelTells.l0 k x7 (x9 ++ [x333000]) x65 x66 (wrap64 (x67 + 1)) x308000 x308001 x310000 x310001) else (none)) else (mainsheetlaw15_WheelTells.l0 k x7 x9 x65 x66 (wrap64 (x67 + 1)) x308000 x308001 x310000 x310001)) else (mainsheetlaw15_WheelTells.l0 k x7 x9 x65 x66 (wrap64 (x67 + 1)) x308000 x308001 x310000 x310001))
def mainsheetlaw15_WheelTells.l1 : Nat → List Int → List Int → Int → Int → Option (Bool)
  | 0, _, _, _, _ => none
  | k + 1, x9, x17, x138, x139 => if x139 < x138 then (if 0 ≤ x139 then (if x139 < (x17.length : Int) then (if x139 < (x9.length : Int) then (if (rd x17 x139) = (rd x9 x139) then (mainsheetlaw15_WheelTells.l1 k x9 x17 x138 (wrap64 (x139 + 1))) else (some false)) else (none)) else (none)) else (none)) else (some true)
end
def mainsheetlaw15_WheelTells.f (k : Nat) (a0_0 : Int) (l0_1 : List (S33)) (a1_0 : Int) (l1_1 : List (S33)) (a2_0 : Int) (a2_1 : Int) : Option (Bool) := (mainsheetlaw15_wakes.f k).bind fun t310 => (if t310 = true then (if (l0_1.length : Int) > 100 then (mainsheetlaw15_WheelTells.j0 k true a0_0 l0_1 a1_0 l1_1 a2_0 a2_1) else (mainsheetlaw15_WheelTells.j0 k (decide ((l1_1.length : Int) > 100)) a0_0 l0_1 a1_0 l1_1 a2_0 a2_1)) else (some false))
theorem mainsheetlaw15_WheelTells.mono_l : ∀ k, (∀ y0 y1 y2 y3 y4 y5 y6, LeO (mainsheetlaw15_WheelTells.j0 k y0 y1 y2 y3 y4 y5 y6) (mainsheetlaw15_WheelTells.j0 (k + 1) y0 y1 y2 y3 y4 y5 y6)) ∧ (∀ y0 y1 y2 y3 y4 y5, LeO (mainsheetlaw15_WheelTells.j1 k y0 y1 y2 y3 y4 y5) (mainsheetlaw15_WheelTells.j1 (k + 1) y0 y1 y2 y3 y4 y5)) ∧ (∀ y0 y1 y2 y3 y4 y5 y6 y7 y8, LeO (mainsheetlaw15_WheelTells.l0 k y0 y1 y2 y3 y4 y5 y6 y7 y8) (mainsheetlaw15_WheelTells.l0 (k + 1) y0 y1 y2 y3 y4 y5 y6 y7 y8)) ∧ (∀ y0 y1 y2 y3 y4 y5 y6 y7 y8 y9 y10 y11 y12 y13, LeO (mainsheetlaw15_WheelTells.j3 k y0 y1 y2 y3 y4 y5 y6 y7 y8 y9 y10 y11 y12 y13) (mainsheetlaw15_WheelTells.j3 (k + 1) y0 y1 y2 y3 y4 y5 y6 y7 y8 y9 y10 y11 y12 y13)) ∧ (∀ y0 y1 y2 y3, LeO (mainsheetlaw15_WheelTells.l1 k y0 y1 y2 y3) (mainsheetlaw15_WheelTells.l1 (k + 1) y0 y1 y2 y3))
  | 0 => ⟨fun _ _ _ _ _ _ _ r h => by simp [mainsheetlaw15_WheelTells.j0] at h, fun _ _ _ _ _ _ r h => by simp [mainsheetlaw15_WheelTells.j1] at h, fun _ _ _ _ _ _ _ _ _ r h => by simp [mainsheetlaw15_WheelTells.l0] at h, fun _ _ _ _ _ _ _ _ _ _ _ _ _ _ r h => by simp [mainsheetlaw15_WheelTells.j3] at h, fun _ _ _ _ r h => by simp [mainsheetlaw15_WheelTells.l1] at h⟩
  | k + 1 => by
    obtain ⟨ih0, ih1, ih2, ih3, ih4⟩ := mainsheetlaw15_WheelTells.mono_l k
    refine ⟨?_, ?_, ?_, ?_, ?_⟩
    · intro y0 y1 y2 y3 y4 y5 y6
      unfold mainsheetlaw15_WheelTells.j0
      repeat' first
      | (with_reducible exact ih0 _ _ _ _ _ _ _)
      | (with_reducible exact ih1 _ _ _ _ _ _)
      | (with_reducible exact ih2 _ _ _ _ _ _ _ _ _)
      | (with_reducible exact ih3 _ _ _ _ _ _ _ _ _ _ _ _ _ _)
      | (with_reducible exact ih4 _ _ _ _)
      | (with_reducible exact mainsheetlaw15_wakes.mono _)
      | (with_reducible exact mainsheetref15_Place.mono _ _ _)
      | (with_reducible exact mainsheetref15_Right.mono _ _ _)
      | (with_reducible exact mainsheetref15_Same.mono _ _ _ _ _)
      | (with_reducible exact wheel_Check.mono _ _ _)
      | (with_reducible exact wheel_Same.mono _ _ _ _ _)
      | (with_reducible exact LeO.refl _)
      | (with_reducible exact LeO.none _)
      | (with_reducible refine LeO.ite ?_ ?_)
      | (with_reducible refine LeO.bind ?_ (fun _ => ?_))
      | exact ih0 _ _ _ _ _ _ _
      | exact ih1 _ _ _ _ _ _
      | exact ih2 _ _ _ _ _ _ _ _ _
      | exact ih3 _ _ _ _ _ _ _ _ _ _ _ _ _ _
      | exact ih4 _ _ _ _
      | exact mainsheetlaw15_wakes.mono _
      | exact mainsheetref15_Place.mono _ _ _
      | exact mainsheetref15_Right.mono _ _ _
      | exact mainsheetref15_Same.mono _ _ _ _ _
      | exact wheel_Check.mono _ _ _
      | exact wheel_Same.mono _ _ _ _ _
      | exact LeO.none _
      | refine LeO.ite ?_ ?_
      | refine LeO.bind ?_ (fun _ => ?_)
    · intro y0 y1 y2 y3 y4 y5
      unfold mainsheetlaw15_WheelTells.j1
      repeat' first
      | (with_reducible exact ih0 _ _ _ _ _ _ _)
      | (with_reducible exact ih1 _ _ _ _ _ _)
      | (with_reducible exact ih2 _ _ _ _ _ _ _ _ _)
      | (with_reducible exact ih3 _ _ _ _ _ _ _ _ _ _ _ _ _ _)
      | (with_reducible exact ih4 _ _ _ _)
      | (with_reducible exact mainsheetlaw15_wakes.mono _)
      | (with_reducible exact mainsheetref15_Place.mono _ _ _)
      | (with_reducible exact mainsheetref15_Right.mono _ _ _)
      | (with_reducible exact mainsheetref15_Same.mono _ _ _ _ _)
      | (with_reducible exact wheel_Check.mono _ _ _)
      | (with_reducible exact wheel_Same.mono _ _ _ _ _)
      | (with_reducible exact LeO.refl _)
      | (with_reducible exact LeO.none _)
      | (with_reducible refine LeO.ite ?_ ?_)
      | (with_reducible refine LeO.bind ?_ (fun _ => ?_))
      | exact ih0 _ _ _ _ _ _ _
      | exact ih1 _ _ _ _ _ _
      | exact ih2 _ _ _ _ _ _ _ _ _
      | exact ih3 _ _ _ _ _ _ _ _ _ _ _ _ _ _
      | exact ih4 _ _ _ _
      | exact mainsheetlaw15_wakes.mono _
      | exact mainsheetref15_Place.mono _ _ _
      | exact mainsheetref15_Right.mono _ _ _
      | exact mainsheetref15_Same.mono _ _ _ _ _
      | exact wheel_Check.mono _ _ _
      | exact wheel_Same.mono _ _ _ _ _
      | exact LeO.none _
      | refine LeO.ite ?_ ?_
      | refine LeO.bind ?_ (fun _ => ?_)
    · intro y0 y1 y2 y3 y4 y5 y6 y7 y8
      unfold mainsheetlaw15_WheelTells.l0
      repeat' first
      | (with_reducible exact ih0 _ _ _ _ _ _ _)
      | (with_reducible exact ih1 _ _ _ _ _ _)
      | (with_reducible exact ih2 _ _ _ _ _ _ _ _ _)
      | (with_reducible exact ih3 _ _ _ _ _ _ _ _ _ _ _ _ _ _)
      | (with_reducible exact ih4 _ _ _ _)
      | (with_reducible exact mainsheetlaw15_wakes.mono _)
      | (with_reducible exact mainsheetref15_Place.mono _ _ _)
      | (with_reducible exact mainsheetref15_Right.mono _ _ _)
      | (with_reducible exact mainsheetref15_Same.mono _ _ _ _ _)
      | (with_reducible exact wheel_Check.mono _ _ _)
      | (with_reducible exact wheel_Same.mono _ _ _ _ _)
      | (with_reducible exact LeO.refl _)
      | (with_reducible exact LeO.none _)
      | (with_reducible refine LeO.ite ?_ ?_)
      | (with_reducible refine LeO.bind ?_ (fun _ => ?_))
      | exact ih0 _ _ _ _ _ _ _
      | exact ih1 _ _ _ _ _ _
      | exact ih2 _ _ _ _ _ _ _ _ _
      | exact ih3 _ _ _ _ _ _ _ _ _ _ _ _ _ _
      | exact ih4 _ _ _ _
      | exact mainsheetlaw15_wakes.mono _
      | exact mainsheetref15_Place.mono _ _ _
      | exact mainsheetref15_Right.mono _ _ _
      | exact mainsheetref15_Same.mono _ _ _ _ _
      | exact wheel_Check.mono _ _ _
      | exact wheel_Same.mono _ _ _ _ _
      | exact LeO.none _
      | refine LeO.ite ?_ ?_
      | refine LeO.bind ?_ (fun _ => ?_)
    · intro y0 y1 y2 y3 y4 y5 y6 y7 y8 y9 y10 y11 y12 y13
      unfold mainsheetlaw15_WheelTells.j3
      repeat' first
      | (with_reducible exact ih0 _ _ _ _ _ _ _)
      | (with_reducible exact ih1 _ _ _ _ _ _)
      | (with_reducible exact ih2 _ _ _ _ _ _ _ _ _)
      | (with_reducible exact ih3 _ _ _ _ _ _ _ _ _ _ _ _ _ _)
      | (with_reducible exact ih4 _ _ _ _)
      | (with_reducible exact mainsheetlaw15_wakes.mono _)
      | (with_reducible exact mainsheetref15_Place.mono _ _ _)
      | (with_reducible exact mainsheetref15_Right.mono _ _ _)
      | (with_reducible exact mainsheetref15_Same.mono _ _ _ _ _)
      | (with_reducible exact wheel_Check.mono _ _ _)
      | (with_reducible exact wheel_Same.mono _ _ _ _ _)
      | (with_reducible exact LeO.refl _)
      | (with_reducible exact LeO.none _)
      | (with_reducible refine LeO.ite ?_ ?_)
      | (with_reducible refine LeO.bind ?_ (fun _ => ?_))
      | exact ih0 _ _ _ _ _ _ _
      | exact ih1 _ _ _ _ _ _
      | exact ih2 _ _ _ _ _ _ _ _ _
      | exact ih3 _ _ _ _ _ _ _ _ _ _ _ _ _ _
      | exact ih4 _ _ _ _
      | exact mainsheetlaw15_wakes.mono _
      | exact mainsheetref15_Place.mono _ _ _
      | exact mainsheetref15_Right.mono _ _ _
      | exact mainsheetref15_Same.mono _ _ _ _ _
      | exact wheel_Check.mono _ _ _
      | exact wheel_Same.mono _ _ _ _ _
      | exact LeO.none _
      | refine LeO.ite ?_ ?_
      | refine LeO.bind ?_ (fun _ => ?_)
    · intro y0 y1 y2 y3
      unfold mainsheetlaw15_WheelTells.l1
      repeat' first
      | (with_reducible exact ih0 _ _ _ _ _ _ _)
      | (with_reducible exact ih1 _ _ _ _ _ _)
      | (with_reducible exact ih2 _ _ _ _ _ _ _ _ _)
      | (with_reducible exact ih3 _ _ _ _ _ _ _ _ _ _ _ _ _ _)
      | (with_reducible exact ih4 _ _ _ _)
      | (with_reducible exact mainsheetlaw15_wakes.mono _)
      | (with_reducible exact mainsheetref15_Place.mono _ _ _)
      | (with_reducible exact mainsheetref15_Right.mono _ _ _)
      | (with_reducible exact mainsheetref15_Same.mono _ _ _ _ _)
      | (with_reducible exact wheel_Check.mono _ _ _)
      | (with_reducible exact wheel_Same.mono _ _ _ _ _)
      | (with_reducible exact LeO.refl _)
      | (with_reducible exact LeO.none _)
      | (with_reducible refine LeO.ite ?_ ?_)
      | (with_reducible refine LeO.bind ?_ (fun _ => ?_))
      | exact ih0 _ _ _ _ _ _ _
      | exact ih1 _ _ _ _ _ _
      | exact ih2 _ _ _ _ _ _ _ _ _
      | exact ih3 _ _ _ _ _ _ _ _ _ _ _ _ _ _
      | exact ih4 _ _ _ _
      | exact mainsheetlaw15_wakes.mono _
      | exact mainsheetref15_Place.mono _ _ _
      | exact mainsheetref15_Right.mono _ _ _
      | exact mainsheetref15_Same.mono _ _ _ _ _
      | exact wheel_Check.mono _ _ _
      | exact wheel_Same.mono _ _ _ _ _
      | exact LeO.none _
      | refine LeO.ite ?_ ?_
      | refine LeO.bind ?_ (fun _ => ?_)
theorem mainsheetlaw15_WheelTells.mono : ∀ a0 a1 a2 a3 a4 a5 k, LeO (mainsheetlaw15_WheelTells.f k a0 a1 a2 a3 a4 a5) (mainsheetlaw15_WheelTells.f (k + 1) a0 a1 a2 a3 a4 a5) := by
  intro a0 a1 a2 a3 a4 a5 k
  obtain ⟨ih0, ih1, ih2, ih3, ih4⟩ := mainsheetlaw15_WheelTells.mono_l k
  unfold mainsheetlaw15_WheelTells.f
  repeat' first
      | (with_reducible exact ih0 _ _ _ _ _ _ _)
      | (with_reducible exact ih1 _ _ _ _ _ _)
      | (with_reducible exact ih2 _ _ _ _ _ _ _ _ _)
      | (with_reducible exact ih3 _ _ _ _ _ _ _ _ _ _ _ _ _ _)
      | (with_reducible exact ih4 _ _ _ _)
      | (with_reducible exact mainsheetlaw15_wakes.mono _)
      | (with_reducible exact mainsheetref15_Place.mono _ _ _)
      | (with_reducible exact mainsheetref15_Right.mono _ _ _)
      | (with_reducible exact mainsheetref15_Same.mono _ _ _ _ _)
      | (with_reducible exact wheel_Check.mono _ _ _)
      | (with_reducible exact wheel_Same.mono _ _ _ _ _)
      | (with_reducible exact LeO.refl _)
      | (with_reducible exact LeO.none _)
      | (with_reducible refine LeO.ite ?_ ?_)
      | (with_reducible refine LeO.bind ?_ (fun _ => ?_))
      | exact ih0 _ _ _ _ _ _ _
      | exact ih1 _ _ _ _ _ _
      | exact ih2 _ _ _ _ _ _ _ _ _
      | exact ih3 _ _ _ _ _ _ _ _ _ _ _ _ _ _
      | exact ih4 _ _ _ _
      | exact mainsheetlaw15_wakes.mono _
      | exact mainsheetref15_Place.mono _ _ _
      | exact mainsheetref15_Right.mono _ _ _
      | exact mainsheetref15_Same.mono _ _ _ _ _
      | exact wheel_Check.mono _ _ _
      | exact wheel_Same.mono _ _ _ _ _
      | exact LeO.none _
      | refine LeO.ite ?_ ?_
      | refine LeO.bind ?_ (fun _ => ?_)
def mainsheetlaw15_WheelTells.T7 : Bool × List (List Nat × List Nat) := (true, [([], []), ([], []), ([1], [1]), ([0, 2], [0, 2]), ([3], [3]), ([4], [4]), ([5, 4], [4, 5]), ([6, 4, 4], [4, 6]), ([7], [7]), ([8, 7], [7, 8]), ([7, 9, 4], [4, 7, 9]), ([4, 10], [4, 10]), ([11, 7], [11]), ([12], [12]), ([12], [12]), ([13, 14, 12, 12], [12, 13, 14]), ([12], [12]), ([12], [12]), ([16, 17, 15, 12], [12, 16, 17]), ([15, 18, 12], [12, 15, 18]), ([12, 19], [12, 19]), ([20, 18], [20]), ([21], [21]), ([21], [21]), ([23, 21, 21], [21, 23]), ([22, 24, 24, 21], [21, 22, 24]), ([25, 21], [21, 25]), ([21, 26], [21, 26])])
def mainsheetlaw15_WheelTells.B7 : List Nat := [0, 0, 2, 7, 15, 31, 63, 127, 255, 511, 1023, 2047, 4095, 8191, 8191, 32767, 8191, 8191, 262143, 524287, 1048575, 2097151, 4194303, 4194303, 12582911, 33554431, 67108863, 134217727]
theorem mainsheetlaw15_WheelTells.tab7 : rtab .any (opsOf Try.f5 7) = mainsheetlaw15_WheelTells.T7 := by kernel_rfl
theorem mainsheetlaw15_WheelTells.bits7 : waitsOk mainsheetlaw15_WheelTells.T7.2 mainsheetlaw15_WheelTells.B7 = true := by kernel_rfl
def mainsheetlaw15_WheelTells.T29 : Bool × List (List Nat × List Nat) := (true, [([], []), ([], []), ([0, 1], [0, 1]), ([2], [2]), ([], []), ([], []), ([4, 5], [4, 5]), ([6], [6]), ([3, 7], [3, 7])])
def mainsheetlaw15_WheelTells.B29 : List Nat := [0, 0, 3, 7, 0, 0, 48, 112, 255]
theorem mainsheetlaw15_WheelTells.tab29 : rtab .any (opsOf Try.f5 29) = mainsheetlaw15_WheelTells.T29 := by kernel_rfl
theorem mainsheetlaw15_WheelTells.bits29 : waitsOk mainsheetlaw15_WheelTells.T29.2 mainsheetlaw15_WheelTells.B29 = true := by kernel_rfl
end Go.Proofs.Ytolaaplnoahnkaa.C
