import Derived.Test.YtlddekjlmkimnaaJ5
import Derived.Test.YtlddekjlmkimnaaJ6
import Derived.Test.YtlddekjlmkimnaaJ25
import Derived.Test.YtlddekjlmkimnaaJ23
import Derived.Test.YtlddekjlmkimnaaC17
import Derived.Test.YtlddekjlmkimnaaC18
import Derived.Test.YtlddekjlmkimnaaC20
import Derived.Test.YtlddekjlmkimnaaJ24
import Derived.Test.YtlddekjlmkimnaaHpass
import Derived.Test.YtlddekjlmkimnaaJ29
import Derived.Test.YtlddekjlmkimnaaHstops
import Derived.Test.YtlddekjlmkimnaaCtime
namespace Go.Proofs.Ytlddekjlmkimnaa.C
open Go.RowKit Go.Proofs.YtlddekjlmkimnaaW.PrintWords Go.Proofs.YtlddekjlmkimnaaW.PrintLast Go.Proofs.YtlddekjlmkimnaaW.PrintMore
attribute [local go_sem] max2_int min2_int max_two min_two max_three min_three max_four min_four   -- for this text's walks alone
set_option linter.unusedVariables false
set_option linter.unusedSimpArgs false

attribute [local go_sem high] eqA47
/-! ### mainsheetlaw18_VtimerStops: function 6 -/
mutual
def mainsheetlaw18_VtimerStops.j2 : Nat → Int → Int → Int → Int → Int → Int → Bool → Int → List (S88) → List (S47) → Option (Bool)
 | 0, _, _, _, _, _, _, _, _, _, _ => none
 | k + 1, x321000, x321001, x321002, x321003, x321004, x321005, x321006, x330000, x330001, x330002 => (mainsheetlaw18_Op_time.f x321000 x321001 x321002 x321003 x321004 x321005 x321006 x330000 x330001 x330002).bind fun t377 => ((vtimer_Sleep.f x330000 x330001 x330002 x321001 t377).bind fun bt378 => (if bt378.2.2.2 = 0 then ((vtimer_Sleeps.f k bt378.1 bt378.2.1 bt378.2.2.1 x321001).bind fun bt387 => ((vtimer_Wake.f bt378.1 bt378.2.1 bt378.2.2.1 x321001).bind fun bt389 => ((vtimer_Sleeps.f k bt389.1 bt389.2.1 bt389.2.2.1 x321001).bind fun bt398 => ((vtimer_Wake.f bt389.1 bt389.2.1 bt389.2.2.1 x321001).bind fun bt400 => (if bt387.2 = true then ((mainsheetlaw18_Op_time.f x321000 x321001 x321002 x321003 x321004 x321005 x321006 x330000 x330001 x330002).bind fun t409 => (if bt387.1 = t409 then (if bt389.2.2.2 = 0 then (if bt398.2 = true then (some false) else (some (bt400.2.2.2 == 4))) else (some false)) else (some false))) else (some false)))))) else (some ((bt378.2.2.1.length : Int) == 0))))
def mainsheetlaw18_VtimerStops.j0 : Nat → List (S44) → Bool → Int → Int → Int → Int → Int → Int → Bool → Int → List (S88) → List (S47) → Option (Bool)
 | 0, _, _, _, _, _, _, _, _, _, _, _, _ => none
 | k + 1, x17, x106, x321000, x321001, x321002, x321003, x321004, x321005, x321006, x330000, x330001, x330002 => if x106 = true then (some false) else (mainsheetlaw18_VtimerStops.l0 k x17 (x17.length : Int) 0 x321000 x321001 x321002 x321003 x321004 x321005 x321006 x330000 x330001 x330002)
def mainsheetlaw18_VtimerStops.l0 : Nat → List (S44) → Int → Int → Int → Int → Int → Int → Int → Int → Bool → Int → List (S88) → List (S47) → Option (Bool)
 | 0, _, _, _, _, _, _, _, _, _, _, _, _, _ => none
 | k + 1, x107, x108, x109, x321000, x321001, x321002, x321003, x321004, x321005, x321006, x330000, x330001, x330002 => if x109 < x108 then (if 0 ≤ x109 then (if x109 < (x107.length : Int) then (if ((rd_T44 x107 x109).f0) = x321002 then (if ((rd_T44 x107 x109).f1) > 0 then (some false) else (mainsheetlaw18_VtimerStops.l0 k x107 x108 (wrap64 (x109 + 1)) x321000 x321001 x321002 x321003 x321004 x321005 x321006 x330000 x330001 x330002)) else (mainsheetlaw18_VtimerStops.l0 k x107 x108 (wrap64 (x109 + 1)) x321000 x321001 x321002 x321003 x321004 x321005 x321006 x330000 x330001 x330002)) else (none)) else (none)) else (mainsheetlaw18_VtimerStops.j2 k x321000 x321001 x321002 x321003 x321004 x321005 x321006 x330000 x330001 x330002)
end
def mainsheetlaw18_VtimerStops.f (k : Nat) (a0_0 : Int) (l0_1 : List (S88)) (l0_2 : List (S47)) (a1_0 : Int) (a1_1 : Int) (a1_2 : Int) (a1_3 : Int) (a1_4 : Int) (a1_5 : Int) (a1_6 : Bool) : Option (Bool) := (mainsheetlaw18_wakes.f k).bind fun t321 => (if t321 = true then ((mainsheetlaw18_short.f a0_0 l0_1 l0_2).bind fun bt322 => ((vtimer_Check.f k bt322.1 bt322.2.1 bt322.2.2).bind fun t330 => (if t330 = 0 then ((mainsheetlaw18_Op_time.f a1_0 a1_1 a1_2 a1_3 a1_4 a1_5 a1_6 bt322.1 bt322.2.1 bt322.2.2).bind fun t331 => ((vtimer_Start.f bt322.1 bt322.2.1 bt322.2.2 a1_2 a1_3 a1_4 t331).bind fun bt332 => (if bt332.2.2.2 = 0 then ((vtimer_Get.f k bt332.1 bt332.2.1 bt332.2.2.1 a1_2).bind fun bt341 => ((vtimer_Stop.f bt332.1 bt332.2.1 bt332.2.2.1 a1_2).bind fun bt347 => ((vtimer_Get.f k bt347.1 bt347.2.1 bt347.2.2.1 a1_2).bind fun bt356 => ((vtimer_Pass.f bt347.1 bt347.2.1 bt347.2.2.1 1125899906842624).bind fun bt362 => (if bt341.2.2.2.2 = true then (if (!(bt341.1 == a1_2) || (!(bt341.2.1 == a1_3) || (!(bt341.2.2.1 == a1_4)))) = true then (mainsheetlaw18_VtimerStops.j0 k bt362.2.2.2.1 true a1_0 a1_1 a1_2 a1_3 a1_4 a1_5 a1_6 bt322.1 bt322.2.1 bt322.2.2) else ((mainsheetlaw18_Op_time.f a1_0 a1_1 a1_2 a1_3 a1_4 a1_5 a1_6 bt322.1 bt322.2.1 bt322.2.2).bind fun t374 => (if bt341.2.2.2.1 = t374 then (if bt347.2.2.2 = 0 then (if bt356.2.2.2.2 = true then (mainsheetlaw18_VtimerStops.j0 k bt362.2.2.2.1 true a1_0 a1_1 a1_2 a1_3 a1_4 a1_5 a1_6 bt322.1 bt322.2.1 bt322.2.2) else (mainsheetlaw18_VtimerStops.j0 k bt362.2.2.2.1 (bt362.2.2.2.2 != 0) a1_0 a1_1 a1_2 a1_3 a1_4 a1_5 a1_6 bt322.1 bt322.2.1 bt322.2.2)) else (mainsheetlaw18_VtimerStops.j0 k bt362.2.2.2.1 true a1_0 a1_1 a1_2 a1_3 a1_4 a1_5 a1_6 bt322.1 bt322.2.1 bt322.2.2)) else (mainsheetlaw18_VtimerStops.j0 k bt362.2.2.2.1 true a1_0 a1_1 a1_2 a1_3 a1_4 a1_5 a1_6 bt322.1 bt322.2.1 bt322.2.2)))) else (mainsheetlaw18_VtimerStops.j0 k bt362.2.2.2.1 true a1_0 a1_1 a1_2 a1_3 a1_4 a1_5 a1_6 bt322.1 bt322.2.1 bt322.2.2)))))) else (mainsheetlaw18_VtimerStops.j2 k a1_0 a1_1 a1_2 a1_3 a1_4 a1_5 a1_6 bt322.1 bt322.2.1 bt322.2.2)))) else (some true)))) else (some false))
theorem mainsheetlaw18_VtimerStops.mono_l : ∀ k, (∀ y0 y1 y2 y3 y4 y5 y6 y7 y8 y9, LeO (mainsheetlaw18_VtimerStops.j2 k y0 y1 y2 y3 y4 y5 y6 y7 y8 y9) (mainsheetlaw18_VtimerStops.j2 (k + 1) y0 y1 y2 y3 y4 y5 y6 y7 y8 y9)) ∧ (∀ y0 y1 y2 y3 y4 y5 y6 y7 y8 y9 y10 y11, LeO (mainsheetlaw18_VtimerStops.j0 k y0 y1 y2 y3 y4 y5 y6 y7 y8 y9 y10 y11) (mainsheetlaw18_VtimerStops.j0 (k + 1) y0 y1 y2 y3 y4 y5 y6 y7 y8 y9 y10 y11)) ∧ (∀ y0 y1 y2 y3 y4 y5 y6 y7 y8 y9 y10 y11 y12, LeO (mainsheetlaw18_VtimerStops.l0 k y0 y1 y2 y3 y4 y5 y6 y7 y8 y9 y10 y11 y12) (mainsheetlaw18_VtimerStops.l0 (k + 1) y0 y1 y2 y3 y4 y5 y6 y7 y8 y9 y10 y11 y12))
 | 0 => ⟨fun _ _ _ _ _ _ _ _ _ _ r h => by simp [mainsheetlaw18_VtimerStops.j2] at h, fun _ _ _ _ _ _ _ _ _ _ _ _ r h => by simp [mainsheetlaw18_VtimerStops.j0] at h, fun _ _ _ _ _ _ _ _ _ _ _ _ _ r h => by simp [mainsheetlaw18_VtimerStops.l0] at h⟩
 | k + 1 => by
  obtain ⟨ih0, ih1, ih2⟩ := mainsheetlaw18_VtimerStops.mono_l k
  refine ⟨?_, ?_, ?_⟩
  · intro y0 y1 y2 y3 y4 y5 y6 y7 y8 y9
    unfold mainsheetlaw18_VtimerStops.j2
    repeat' first
    | (with_reducible exact ih0 _ _ _ _ _ _ _ _ _ _)
    | (with_reducible exact ih1 _ _ _ _ _ _ _ _ _ _ _ _)
    | (with_reducible exact ih2 _ _ _ _ _ _ _ _ _ _ _ _ _)
    | (with_reducible exact mainsheetlaw18_wakes.mono _)
    | (with_reducible exact vtimer_Check.mono _ _ _ _)
    | (with_reducible exact vtimer_Get.mono _ _ _ _ _)
    | (with_reducible exact vtimer_Sleeps.mono _ _ _ _ _)
    | (with_reducible exact LeO.refl _)
    | (with_reducible exact LeO.none _)
    | (with_reducible refine LeO.ite ?_ ?_)
    | (with_reducible refine LeO.bind ?_ (fun _ => ?_))
    | exact ih0 _ _ _ _ _ _ _ _ _ _
    | exact ih1 _ _ _ _ _ _ _ _ _ _ _ _
    | exact ih2 _ _ _ _ _ _ _ _ _ _ _ _ _
    | exact mainsheetlaw18_wakes.mono _
    | exact vtimer_Check.mono _ _ _ _
    | exact vtimer_Get.mono _ _ _ _ _
    | exact vtimer_Sleeps.mono _ _ _ _ _
    | exact LeO.none _
    | refine LeO.ite ?_ ?_
    | refine LeO.bind ?_ (fun _ => ?_)
  · intro y0 y1 y2 y3 y4 y5 y6 y7 y8 y9 y10 y11
    unfold mainsheetlaw18_VtimerStops.j0
    repeat' first
    | (with_reducible exact ih0 _ _ _ _ _ _ _ _ _ _)
    | (with_reducible exact ih1 _ _ _ _ _ _ _ _ _ _ _ _)
    | (with_reducible exact ih2 _ _ _ _ _ _ _ _ _ _ _ _ _)
    | (with_reducible exact mainsheetlaw18_wakes.mono _)
    | (with_reducible exact vtimer_Check.mono _ _ _ _)
    | (with_reducible exact vtimer_Get.mono _ _ _ _ _)
    | (with_reducible exact vtimer_Sleeps.mono _ _ _ _ _)
    | (with_reducible exact LeO.refl _)
    | (with_reducible exact LeO.none _)
    | (with_reducible refine LeO.ite ?_ ?_)
    | (with_reducible refine LeO.bind ?_ (fun _ => ?_))
    | exact ih0 _ _ _ _ _ _ _ _ _ _
    | exact ih1 _ _ _ _ _ _ _ _ _ _ _ _
    | exact ih2 _ _ _ _ _ _ _ _ _ _ _ _ _
    | exact mainsheetlaw18_wakes.mono _
    | exact vtimer_Check.mono _ _ _ _
    | exact vtimer_Get.mono _ _ _ _ _
    | exact vtimer_Sleeps.mono _ _ _ _ _
    | exact LeO.none _
    | refine LeO.ite ?_ ?_
    | refine LeO.bind ?_ (fun _ => ?_)
  · intro y0 y1 y2 y3 y4 y5 y6 y7 y8 y9 y10 y11 y12
    unfold mainsheetlaw18_VtimerStops.l0
    repeat' first
    | (with_reducible exact ih0 _ _ _ _ _ _ _ _ _ _)
    | (with_reducible exact ih1 _ _ _ _ _ _ _ _ _ _ _ _)
    | (with_reducible exact ih2 _ _ _ _ _ _ _ _ _ _ _ _ _)
    | (with_reducible exact mainsheetlaw18_wakes.mono _)
    | (with_reducible exact vtimer_Check.mono _ _ _ _)
    | (with_reducible exact vtimer_Get.mono _ _ _ _ _)
    | (with_reducible exact vtimer_Sleeps.mono _ _ _ _ _)
    | (with_reducible exact LeO.refl _)
    | (with_reducible exact LeO.none _)
    | (with_reducible refine LeO.ite ?_ ?_)
    | (with_reducible refine LeO.bind ?_ (fun _ => ?_))
    | exact ih0 _ _ _ _ _ _ _ _ _ _
    | exact ih1 _ _ _ _ _ _ _ _ _ _ _ _
    | exact ih2 _ _ _ _ _ _ _ _ _ _ _ _ _
    | exact mainsheetlaw18_wakes.mono _
    | exact vtimer_Check.mono _ _ _ _
    | exact vtimer_Get.mono _ _ _ _ _
    | exact vtimer_Sleeps.mono _ _ _ _ _
    | exact LeO.none _
    | refine LeO.ite ?_ ?_
    | refine LeO.bind ?_ (fun _ => ?_)
theorem mainsheetlaw18_VtimerStops.mono : ∀ a0 a1 a2 a3 a4 a5 a6 a7 a8 a9 k, LeO (mainsheetlaw18_VtimerStops.f k a0 a1 a2 a3 a4 a5 a6 a7 a8 a9) (mainsheetlaw18_VtimerStops.f (k + 1) a0 a1 a2 a3 a4 a5 a6 a7 a8 a9) := by
 intro a0 a1 a2 a3 a4 a5 a6 a7 a8 a9 k
 obtain ⟨ih0, ih1, ih2⟩ := mainsheetlaw18_VtimerStops.mono_l k
 unfold mainsheetlaw18_VtimerStops.f
 repeat' first
  | (with_reducible exact ih0 _ _ _ _ _ _ _ _ _ _)
  | (with_reducible exact ih1 _ _ _ _ _ _ _ _ _ _ _ _)
  | (with_reducible exact ih2 _ _ _ _ _ _ _ _ _ _ _ _ _)
  | (with_reducible exact mainsheetlaw18_wakes.mono _)
  | (with_reducible exact vtimer_Check.mono _ _ _ _)
  | (with_reducible exact vtimer_Get.mono _ _ _ _ _)
  | (with_reducible exact vtimer_Sleeps.mono _ _ _ _ _)
  | (with_reducible exact LeO.refl _)
  | (with_reducible exact LeO.none _)
  | (with_reducible refine LeO.ite ?_ ?_)
  | (with_reducible refine LeO.bind ?_ (fun _ => ?_))
  | exact ih0 _ _ _ _ _ _ _ _ _ _
  | exact ih1 _ _ _ _ _ _ _ _ _ _ _ _
  | exact ih2 _ _ _ _ _ _ _ _ _ _ _ _ _
  | exact mainsheetlaw18_wakes.mono _
  | exact vtimer_Check.mono _ _ _ _
  | exact vtimer_Get.mono _ _ _ _ _
  | exact vtimer_Sleeps.mono _ _ _ _ _
  | exact LeO.none _
  | refine LeO.ite ?_ ?_
  | refine LeO.bind ?_ (fun _ => ?_)
def mainsheetlaw18_VtimerStops.T6 : Bool × List (List Nat × List Nat) := (true, [([], []), ([], []), ([1], [1]), ([], []), ([], []), ([3, 4], [3, 4]), ([0, 2, 5, 5], [0, 2, 5]), ([6], [6]), ([7], [7]), ([7], [7]), ([], []), ([10, 8, 6, 0, 1, 2, 3, 4, 5, 6, 7, 8, 10], [8, 10]), ([9, 11, 0, 1, 2, 3, 4, 5, 6, 7, 8, 9, 10, 11], [9])])
def mainsheetlaw18_VtimerStops.B6 : List Nat := [0, 0, 2, 0, 0, 24, 63, 127, 255, 255, 0, 1535, 4095]
theorem mainsheetlaw18_VtimerStops.tab6 : rtab .any (opsOf Try.f6 6) = mainsheetlaw18_VtimerStops.T6 := by kernel_rfl
theorem mainsheetlaw18_VtimerStops.bits6 : waitsOk mainsheetlaw18_VtimerStops.T6.2 mainsheetlaw18_VtimerStops.B6 = true := by kernel_rfl
def mainsheetlaw18_VtimerStops.T20 : Bool × List (List Nat × List Nat) := (true, [([], []), ([], []), ([1], [1]), ([], []), ([], []), ([3, 4], [3, 4]), ([0, 2, 5, 5], [0, 2, 5]), ([6], [6]), ([7], [7]), ([7], [7]), ([], []), ([10, 8, 6, 0, 1, 2, 3, 4, 5, 6, 7, 8, 10], [8, 10]), ([9, 11, 0, 1, 2, 3, 4, 5, 6, 7, 8, 9, 10, 11], [9])])
def mainsheetlaw18_VtimerStops.B20 : List Nat := [0, 0, 2, 0, 0, 24, 63, 127, 255, 255, 0, 1535, 4095]
theorem mainsheetlaw18_VtimerStops.tab20 : rtab .any (opsOf Try.f6 20) = mainsheetlaw18_VtimerStops.T20 := by kernel_rfl
theorem mainsheetlaw18_VtimerStops.bits20 : waitsOk mainsheetlaw18_VtimerStops.T20.2 mainsheetlaw18_VtimerStops.B20 = true := by kernel_rfl
theorem mainsheetlaw18_VtimerStops.j0_true {k : Nat} {r : Bool} {y0 y2 y3 y4 y5 y6 y7 y8 y9 y10 y11} (h : mainsheetlaw18_VtimerStops.j0 k y0 true y2 y3 y4 y5 y6 y7 y8 y9 y10 y11 = some r) (hr : r = true) : False := by
 subst hr
 cases k with
 | zero => simp [mainsheetlaw18_VtimerStops.j0] at h
 | succ k => simp [mainsheetlaw18_VtimerStops.j0] at h
set_option maxHeartbeats 8000000 in
set_option maxRecDepth 100000 in
theorem mainsheetlaw18_VtimerStops.calls (k : Nat) (a0_0 : Int) (A0_1 : Option Addr) (c0_1 : Nat) (l0_1 : List (S88)) (A0_2 : Option Addr) (c0_2 : Nat) (l0_2 : List (S47)) (a1_0 : Int) (a1_1 : Int) (a1_2 : Int) (a1_3 : Int) (a1_4 : Int) (a1_5 : Int) (a1_6 : Bool) (r : Bool) (w : World) (hr0_1 : Kd.C k88 w A0_1 l0_1.length l0_1) (hc0_1 : l0_1.length ≤ c0_1) (hr0_2 : Kd.C k47 w A0_2 l0_2.length l0_2) (hc0_2 : l0_2.length ≤ c0_2) (hr_ : r = true) (h : mainsheetlaw18_VtimerStops.f k a0_0 l0_1 l0_2 a1_0 a1_1 a1_2 a1_3 a1_4 a1_5 a1_6 = some r) :
 Calls Try.prog 6 #[.agg #[.int .i64 a0_0, .slice A0_1 l0_1.length c0_1, .slice A0_2 l0_2.length c0_2], .agg #[.int .i64 a1_0, .int .i64 a1_1, .int .i64 a1_2, .int .i64 a1_3, .int .i64 a1_4, .int .i64 a1_5, .bool a1_6]] w fun e w' => e = .returned (.bool r) ∧ Below w.heap.size w w' := by
 have hu27 := Try.underlying27
 have hu58 := Try.underlying58
 have hu47 := Try.underlying47
 have hu44 := Try.underlying44
 have HR0_1 := Aside0.mk hr0_1
 have HC0_1 := Aside0.mk hc0_1
 clear hr0_1 hc0_1
 have HR0_2 := Aside0.mk hr0_2
 have HC0_2 := Aside0.mk hc0_2
 clear hr0_2 hc0_2
 have HB := Aside0.mk (Below.refl w.heap.size w)
 have H : ((mainsheetlaw18_wakes.f k).bind fun t321 => (if t321 = true then ((mainsheetlaw18_short.f a0_0 l0_1 l0_2).bind fun bt322 => ((vtimer_Check.f k bt322.1 bt322.2.1 bt322.2.2).bind fun t330 => (if t330 = 0 then ((mainsheetlaw18_Op_time.f a1_0 a1_1 a1_2 a1_3 a1_4 a1_5 a1_6 bt322.1 bt322.2.1 bt322.2.2).bind fun t331 => ((vtimer_Start.f bt322.1 bt322.2.1 bt322.2.2 a1_2 a1_3 a1_4 t331).bind fun bt332 => (if bt332.2.2.2 = 0 then ((vtimer_Get.f k bt332.1 bt332.2.1 bt332.2.2.1 a1_2).bind fun bt341 => ((vtimer_Stop.f bt332.1 bt332.2.1 bt332.2.2.1 a1_2).bind fun bt347 => ((vtimer_Get.f k bt347.1 bt347.2.1 bt347.2.2.1 a1_2).bind fun bt356 => ((vtimer_Pass.f bt347.1 bt347.2.1 bt347.2.2.1 1125899906842624).bind fun bt362 => (if bt341.2.2.2.2 = true then (if (!(bt341.1 == a1_2) || (!(bt341.2.1 == a1_3) || (!(bt341.2.2.1 == a1_4)))) = true then (mainsheetlaw18_VtimerStops.j0 k bt362.2.2.2.1 true a1_0 a1_1 a1_2 a1_3 a1_4 a1_5 a1_6 bt322.1 bt322.2.1 bt322.2.2) else ((mainsheetlaw18_Op_time.f a1_0 a1_1 a1_2 a1_3 a1_4 a1_5 a1_6 bt322.1 bt322.2.1 bt322.2.2).bind fun t374 => (if bt341.2.2.2.1 = t374 then (if bt347.2.2.2 = 0 then (if bt356.2.2.2.2 = true then (mainsheetlaw18_VtimerStops.j0 k bt362.2.2.2.1 true a1_0 a1_1 a1_2 a1_3 a1_4 a1_5 a1_6 bt322.1 bt322.2.1 bt322.2.2) else (mainsheetlaw18_VtimerStops.j0 k bt362.2.2.2.1 (bt362.2.2.2.2 != 0) a1_0 a1_1 a1_2 a1_3 a1_4 a1_5 a1_6 bt322.1 bt322.2.1 bt322.2.2)) else (mainsheetlaw18_VtimerStops.j0 k bt362.2.2.2.1 true a1_0 a1_1 a1_2 a1_3 a1_4 a1_5 a1_6 bt322.1 bt322.2.1 bt322.2.2)) else (mainsheetlaw18_VtimerStops.j0 k bt362.2.2.2.1 true a1_0 a1_1 a1_2 a1_3 a1_4 a1_5 a1_6 bt322.1 bt322.2.1 bt322.2.2)))) else (mainsheetlaw18_VtimerStops.j0 k bt362.2.2.2.1 true a1_0 a1_1 a1_2 a1_3 a1_4 a1_5 a1_6 bt322.1 bt322.2.1 bt322.2.2)))))) else (mainsheetlaw18_VtimerStops.j2 k a1_0 a1_1 a1_2 a1_3 a1_4 a1_5 a1_6 bt322.1 bt322.2.1 bt322.2.2)))) else (some true)))) else (some false))) = some r := h
 clear h
 replace H := Option.bind_eq_some_iff.mp H
 obtain ⟨t321, A30, H⟩ := H
 replace H : (if t321 = true then ((mainsheetlaw18_short.f a0_0 l0_1 l0_2).bind fun bt322 => ((vtimer_Check.f k bt322.1 bt322.2.1 bt322.2.2).bind fun t330 => (if t330 = 0 then ((mainsheetlaw18_Op_time.f a1_0 a1_1 a1_2 a1_3 a1_4 a1_5 a1_6 bt322.1 bt322.2.1 bt322.2.2).bind fun t331 => ((vtimer_Start.f bt322.1 bt322.2.1 bt322.2.2 a1_2 a1_3 a1_4 t331).bind fun bt332 => (if bt332.2.2.2 = 0 then ((vtimer_Get.f k bt332.1 bt332.2.1 bt332.2.2.1 a1_2).bind fun bt341 => ((vtimer_Stop.f bt332.1 bt332.2.1 bt332.2.2.1 a1_2).bind fun bt347 => ((vtimer_Get.f k bt347.1 bt347.2.1 bt347.2.2.1 a1_2).bind fun bt356 => ((vtimer_Pass.f bt347.1 bt347.2.1 bt347.2.2.1 1125899906842624).bind fun bt362 => (if bt341.2.2.2.2 = true then (if (!(bt341.1 == a1_2) || (!(bt341.2.1 == a1_3) || (!(bt341.2.2.1 == a1_4)))) = true then (mainsheetlaw18_VtimerStops.j0 k bt362.2.2.2.1 true a1_0 a1_1 a1_2 a1_3 a1_4 a1_5 a1_6 bt322.1 bt322.2.1 bt322.2.2) else ((mainsheetlaw18_Op_time.f a1_0 a1_1 a1_2 a1_3 a1_4 a1_5 a1_6 bt322.1 bt322.2.1 bt322.2.2).bind fun t374 => (if bt341.2.2.2.1 = t374 then (if bt347.2.2.2 = 0 then (if bt356.2.2.2.2 = true then (mainsheetlaw18_VtimerStops.j0 k bt362.2.2.2.1 true a1_0 a1_1 a1_2 a1_3 a1_4 a1_5 a1_6 bt322.1 bt322.2.1 bt322.2.2) else (mainsheetlaw18_VtimerStops.j0 k bt362.2.2.2.1 (bt362.2.2.2.2 != 0) a1_0 a1_1 a1_2 a1_3 a1_4 a1_5 a1_6 bt322.1 bt322.2.1 bt322.2.2)) else (mainsheetlaw18_VtimerStops.j0 k bt362.2.2.2.1 true a1_0 a1_1 a1_2 a1_3 a1_4 a1_5 a1_6 bt322.1 bt322.2.1 bt322.2.2)) else (mainsheetlaw18_VtimerStops.j0 k bt362.2.2.2.1 true a1_0 a1_1 a1_2 a1_3 a1_4 a1_5 a1_6 bt322.1 bt322.2.1 bt322.2.2)))) else (mainsheetlaw18_VtimerStops.j0 k bt362.2.2.2.1 true a1_0 a1_1 a1_2 a1_3 a1_4 a1_5 a1_6 bt322.1 bt322.2.1 bt322.2.2)))))) else (mainsheetlaw18_VtimerStops.j2 k a1_0 a1_1 a1_2 a1_3 a1_4 a1_5 a1_6 bt322.1 bt322.2.1 bt322.2.2)))) else (some true)))) else (some false)) = some r := H
 have A3 := Aside0.mk A30
 clear A30
 by_cases c4 : t321 = true
 · subst c4
   have H1 : ((mainsheetlaw18_short.f a0_0 l0_1 l0_2).bind fun bt322 => ((vtimer_Check.f k bt322.1 bt322.2.1 bt322.2.2).bind fun t330 => (if t330 = 0 then ((mainsheetlaw18_Op_time.f a1_0 a1_1 a1_2 a1_3 a1_4 a1_5 a1_6 bt322.1 bt322.2.1 bt322.2.2).bind fun t331 => ((vtimer_Start.f bt322.1 bt322.2.1 bt322.2.2 a1_2 a1_3 a1_4 t331).bind fun bt332 => (if bt332.2.2.2 = 0 then ((vtimer_Get.f k bt332.1 bt332.2.1 bt332.2.2.1 a1_2).bind fun bt341 => ((vtimer_Stop.f bt332.1 bt332.2.1 bt332.2.2.1 a1_2).bind fun bt347 => ((vtimer_Get.f k bt347.1 bt347.2.1 bt347.2.2.1 a1_2).bind fun bt356 => ((vtimer_Pass.f bt347.1 bt347.2.1 bt347.2.2.1 1125899906842624).bind fun bt362 => (if bt341.2.2.2.2 = true then (if (!(bt341.1 == a1_2) || (!(bt341.2.1 == a1_3) || (!(bt341.2.2.1 == a1_4)))) = true then (mainsheetlaw18_VtimerStops.j0 k bt362.2.2.2.1 true a1_0 a1_1 a1_2 a1_3 a1_4 a1_5 a1_6 bt322.1 bt322.2.1 bt322.2.2) else ((mainsheetlaw18_Op_time.f a1_0 a1_1 a1_2 a1_3 a1_4 a1_5 a1_6 bt322.1 bt322.2.1 bt322.2.2).bind fun t374 => (if bt341.2.2.2.1 = t374 then (if bt347.2.2.2 = 0 then (if bt356.2.2.2.2 = true then (mainsheetlaw18_VtimerStops.j0 k bt362.2.2.2.1 true a1_0 a1_1 a1_2 a1_3 a1_4 a1_5 a1_6 bt322.1 bt322.2.1 bt322.2.2) else (mainsheetlaw18_VtimerStops.j0 k bt362.2.2.2.1 (bt362.2.2.2.2 != 0) a1_0 a1_1 a1_2 a1_3 a1_4 a1_5 a1_6 bt322.1 bt322.2.1 bt322.2.2)) else (mainsheetlaw18_VtimerStops.j0 k bt362.2.2.2.1 true a1_0 a1_1 a1_2 a1_3 a1_4 a1_5 a1_6 bt322.1 bt322.2.1 bt322.2.2)) else (mainsheetlaw18_VtimerStops.j0 k bt362.2.2.2.1 true a1_0 a1_1 a1_2 a1_3 a1_4 a1_5 a1_6 bt322.1 bt322.2.1 bt322.2.2)))) else (mainsheetlaw18_VtimerStops.j0 k bt362.2.2.2.1 true a1_0 a1_1 a1_2 a1_3 a1_4 a1_5 a1_6 bt322.1 bt322.2.1 bt322.2.2)))))) else (mainsheetlaw18_VtimerStops.j2 k a1_0 a1_1 a1_2 a1_3 a1_4 a1_5 a1_6 bt322.1 bt322.2.1 bt322.2.2)))) else (some true)))) = some r := by rw [if_pos rfl] at H; exact H
   clear H
   have H := H1
   clear H1
   replace H := Option.bind_eq_some_iff.mp H
   obtain ⟨⟨t322, t323, t326⟩, A50, H⟩ := H
   replace H : ((vtimer_Check.f k t322 t323 t326).bind fun t330 => (if t330 = 0 then ((mainsheetlaw18_Op_time.f a1_0 a1_1 a1_2 a1_3 a1_4 a1_5 a1_6 t322 t323 t326).bind fun t331 => ((vtimer_Start.f t322 t323 t326 a1_2 a1_3 a1_4 t331).bind fun bt332 => (if bt332.2.2.2 = 0 then ((vtimer_Get.f k bt332.1 bt332.2.1 bt332.2.2.1 a1_2).bind fun bt341 => ((vtimer_Stop.f bt332.1 bt332.2.1 bt332.2.2.1 a1_2).bind fun bt347 => ((vtimer_Get.f k bt347.1 bt347.2.1 bt347.2.2.1 a1_2).bind fun bt356 => ((vtimer_Pass.f bt347.1 bt347.2.1 bt347.2.2.1 1125899906842624).bind fun bt362 => (if bt341.2.2.2.2 = true then (if (!(bt341.1 == a1_2) || (!(bt341.2.1 == a1_3) || (!(bt341.2.2.1 == a1_4)))) = true then (mainsheetlaw18_VtimerStops.j0 k bt362.2.2.2.1 true a1_0 a1_1 a1_2 a1_3 a1_4 a1_5 a1_6 t322 t323 t326) else ((mainsheetlaw18_Op_time.f a1_0 a1_1 a1_2 a1_3 a1_4 a1_5 a1_6 t322 t323 t326).bind fun t374 => (if bt341.2.2.2.1 = t374 then (if bt347.2.2.2 = 0 then (if bt356.2.2.2.2 = true then (mainsheetlaw18_VtimerStops.j0 k bt362.2.2.2.1 true a1_0 a1_1 a1_2 a1_3 a1_4 a1_5 a1_6 t322 t323 t326) else (mainsheetlaw18_VtimerStops.j0 k bt362.2.2.2.1 (bt362.2.2.2.2 != 0) a1_0 a1_1 a1_2 a1_3 a1_4 a1_5 a1_6 t322 t323 t326)) else (mainsheetlaw18_VtimerStops.j0 k bt362.2.2.2.1 true a1_0 a1_1 a1_2 a1_3 a1_4 a1_5 a1_6 t322 t323 t326)) else (mainsheetlaw18_VtimerStops.j0 k bt362.2.2.2.1 true a1_0 a1_1 a1_2 a1_3 a1_4 a1_5 a1_6 t322 t323 t326)))) else (mainsheetlaw18_VtimerStops.j0 k bt362.2.2.2.1 true a1_0 a1_1 a1_2 a1_3 a1_4 a1_5 a1_6 t322 t323 t326)))))) else (mainsheetlaw18_VtimerStops.j2 k a1_0 a1_1 a1_2 a1_3 a1_4 a1_5 a1_6 t322 t323 t326)))) else (some true))) = some r := H
   have A5 := Aside0.mk A50
   clear A50
   replace H := Option.bind_eq_some_iff.mp H
   obtain ⟨t330, A60, H⟩ := H
   replace H : (if t330 = 0 then ((mainsheetlaw18_Op_time.f a1_0 a1_1 a1_2 a1_3 a1_4 a1_5 a1_6 t322 t323 t326).bind fun t331 => ((vtimer_Start.f t322 t323 t326 a1_2 a1_3 a1_4 t331).bind fun bt332 => (if bt332.2.2.2 = 0 then ((vtimer_Get.f k bt332.1 bt332.2.1 bt332.2.2.1 a1_2).bind fun bt341 => ((vtimer_Stop.f bt332.1 bt332.2.1 bt332.2.2.1 a1_2).bind fun bt347 => ((vtimer_Get.f k bt347.1 bt347.2.1 bt347.2.2.1 a1_2).bind fun bt356 => ((vtimer_Pass.f bt347.1 bt347.2.1 bt347.2.2.1 1125899906842624).bind fun bt362 => (if bt341.2.2.2.2 = true then (if (!(bt341.1 == a1_2) || (!(bt341.2.1 == a1_3) || (!(bt341.2.2.1 == a1_4)))) = true then (mainsheetlaw18_VtimerStops.j0 k bt362.2.2.2.1 true a1_0 a1_1 a1_2 a1_3 a1_4 a1_5 a1_6 t322 t323 t326) else ((mainsheetlaw18_Op_time.f a1_0 a1_1 a1_2 a1_3 a1_4 a1_5 a1_6 t322 t323 t326).bind fun t374 => (if bt341.2.2.2.1 = t374 then (if bt347.2.2.2 = 0 then (if bt356.2.2.2.2 = true then (mainsheetlaw18_VtimerStops.j0 k bt362.2.2.2.1 true a1_0 a1_1 a1_2 a1_3 a1_4 a1_5 a1_6 t322 t323 t326) else (mainsheetlaw18_VtimerStops.j0 k bt362.2.2.2.1 (bt362.2.2.2.2 != 0) a1_0 a1_1 a1_2 a1_3 a1_4 a1_5 a1_6 t322 t323 t326)) else (mainsheetlaw18_VtimerStops.j0 k bt362.2.2.2.1 true a1_0 a1_1 a1_2 a1_3 a1_4 a1_5 a1_6 t322 t323 t326)) else (mainsheetlaw18_VtimerStops.j0 k bt362.2.2.2.1 true a1_0 a1_1 a1_2 a1_3 a1_4 a1_5 a1_6 t322 t323 t326)))) else (mainsheetlaw18_VtimerStops.j0 k bt362.2.2.2.1 true a1_0 a1_1 a1_2 a1_3 a1_4 a1_5 a1_6 t322 t323 t326)))))) else (mainsheetlaw18_VtimerStops.j2 k a1_0 a1_1 a1_2 a1_3 a1_4 a1_5 a1_6 t322 t323 t326)))) else (some true)) = some r := H
   have A6 := Aside0.mk A60
   clear A60
   by_cases c7 : t330 = 0
   · rw [if_pos c7] at H
     have c7b0 : (t330 == 0) = true := beq_iff_eq.mpr c7
     have c7b1 : (t330 != 0) = false := bne_eq_false_iff_eq.mpr c7
     clear c7
     replace H := Option.bind_eq_some_iff.mp H
     obtain ⟨t331, A80, H⟩ := H
     replace H : ((vtimer_Start.f t322 t323 t326 a1_2 a1_3 a1_4 t331).bind fun bt332 => (if bt332.2.2.2 = 0 then ((vtimer_Get.f k bt332.1 bt332.2.1 bt332.2.2.1 a1_2).bind fun bt341 => ((vtimer_Stop.f bt332.1 bt332.2.1 bt332.2.2.1 a1_2).bind fun bt347 => ((vtimer_Get.f k bt347.1 bt347.2.1 bt347.2.2.1 a1_2).bind fun bt356 => ((vtimer_Pass.f bt347.1 bt347.2.1 bt347.2.2.1 1125899906842624).bind fun bt362 => (if bt341.2.2.2.2 = true then (if (!(bt341.1 == a1_2) || (!(bt341.2.1 == a1_3) || (!(bt341.2.2.1 == a1_4)))) = true then (mainsheetlaw18_VtimerStops.j0 k bt362.2.2.2.1 true a1_0 a1_1 a1_2 a1_3 a1_4 a1_5 a1_6 t322 t323 t326) else ((mainsheetlaw18_Op_time.f a1_0 a1_1 a1_2 a1_3 a1_4 a1_5 a1_6 t322 t323 t326).bind fun t374 => (if bt341.2.2.2.1 = t374 then (if bt347.2.2.2 = 0 then (if bt356.2.2.2.2 = true then (mainsheetlaw18_VtimerStops.j0 k bt362.2.2.2.1 true a1_0 a1_1 a1_2 a1_3 a1_4 a1_5 a1_6 t322 t323 t326) else (mainsheetlaw18_VtimerStops.j0 k bt362.2.2.2.1 (bt362.2.2.2.2 != 0) a1_0 a1_1 a1_2 a1_3 a1_4 a1_5 a1_6 t322 t323 t326)) else (mainsheetlaw18_VtimerStops.j0 k bt362.2.2.2.1 true a1_0 a1_1 a1_2 a1_3 a1_4 a1_5 a1_6 t322 t323 t326)) else (mainsheetlaw18_VtimerStops.j0 k bt362.2.2.2.1 true a1_0 a1_1 a1_2 a1_3 a1_4 a1_5 a1_6 t322 t323 t326)))) else (mainsheetlaw18_VtimerStops.j0 k bt362.2.2.2.1 true a1_0 a1_1 a1_2 a1_3 a1_4 a1_5 a1_6 t322 t323 t326)))))) else (mainsheetlaw18_VtimerStops.j2 k a1_0 a1_1 a1_2 a1_3 a1_4 a1_5 a1_6 t322 t323 t326))) = some r := H
     have A8 := Aside0.mk A80
     clear A80
     replace H := Option.bind_eq_some_iff.mp H
     obtain ⟨⟨t332, t333, t336, t339⟩, A90, H⟩ := H
     replace H : (if t339 = 0 then ((vtimer_Get.f k t332 t333 t336 a1_2).bind fun bt341 => ((vtimer_Stop.f t332 t333 t336 a1_2).bind fun bt347 => ((vtimer_Get.f k bt347.1 bt347.2.1 bt347.2.2.1 a1_2).bind fun bt356 => ((vtimer_Pass.f bt347.1 bt347.2.1 bt347.2.2.1 1125899906842624).bind fun bt362 => (if bt341.2.2.2.2 = true then (if (!(bt341.1 == a1_2) || (!(bt341.2.1 == a1_3) || (!(bt341.2.2.1 == a1_4)))) = true then (mainsheetlaw18_VtimerStops.j0 k bt362.2.2.2.1 true a1_0 a1_1 a1_2 a1_3 a1_4 a1_5 a1_6 t322 t323 t326) else ((mainsheetlaw18_Op_time.f a1_0 a1_1 a1_2 a1_3 a1_4 a1_5 a1_6 t322 t323 t326).bind fun t374 => (if bt341.2.2.2.1 = t374 then (if bt347.2.2.2 = 0 then (if bt356.2.2.2.2 = true then (mainsheetlaw18_VtimerStops.j0 k bt362.2.2.2.1 true a1_0 a1_1 a1_2 a1_3 a1_4 a1_5 a1_6 t322 t323 t326) else (mainsheetlaw18_VtimerStops.j0 k bt362.2.2.2.1 (bt362.2.2.2.2 != 0) a1_0 a1_1 a1_2 a1_3 a1_4 a1_5 a1_6 t322 t323 t326)) else (mainsheetlaw18_VtimerStops.j0 k bt362.2.2.2.1 true a1_0 a1_1 a1_2 a1_3 a1_4 a1_5 a1_6 t322 t323 t326)) else (mainsheetlaw18_VtimerStops.j0 k bt362.2.2.2.1 true a1_0 a1_1 a1_2 a1_3 a1_4 a1_5 a1_6 t322 t323 t326)))) else (mainsheetlaw18_VtimerStops.j0 k bt362.2.2.2.1 true a1_0 a1_1 a1_2 a1_3 a1_4 a1_5 a1_6 t322 t323 t326)))))) else (mainsheetlaw18_VtimerStops.j2 k a1_0 a1_1 a1_2 a1_3 a1_4 a1_5 a1_6 t322 t323 t326)) = some r := H
     have A9 := Aside0.mk A90
     clear A90
     have HC10 := Aside0.mk H
     clear H
     go_enter Try.func6, Try.ntmps6
     try go_wp2_with (first | ((with_reducible refine gate_dst (N := 2) rfl ?_); refine box_ 2 27 #[.int .i64 a0_0, .slice A0_1 l0_1.length c0_1, .slice A0_2 l0_2.length c0_2] ?_; intro gb319 hg w11 hbox hb; have BK319 := Aside0.mk (hbox); have GW319 := G_ hg HB; have GE319 := G_ hg HB; replace HB := Ls_ HB hb; clear hb hbox hg) | ((with_reducible refine gate_dst (N := 3) rfl ?_); refine box_ 3 58 #[.int .i64 a1_0, .int .i64 a1_1, .int .i64 a1_2, .int .i64 a1_3, .int .i64 a1_4, .int .i64 a1_5, .bool a1_6] ?_; intro gb320 hg w12 hbox hb; have BK320 := Aside0.mk (hbox); have GW320 := G_ hg HB; have GE320 := G_ hg HB; have NB319_320 := Nl_ hg BK319; have NB320_319 := Ng_ hg BK319; replace BK319 := Bb_ BK319 hb; replace HB := Ls_ HB hb; clear hb hbox hg) | ((with_reducible refine gate_callee (f := 7) rfl ?_); refine goesL_ (some 30) rfl rfl Try.func7 (by kernel_rfl) rfl #[] rfl M_ ?_; (with_reducible refine (mainsheetlaw18_wakes.calls k  true _ A3.out).mono ?_); rintro e w13 ⟨rfl, hb⟩; refine ⟨_, rfl, ?_⟩; replace BK319 := Bb_ BK319 hb; replace BK320 := Bb_ BK320 hb; replace HB := Ls_ HB hb; (try clear hb); (try clear hb2); (try clear hk); (try clear hi); have hnb14 := NB319_320.out; have hnc14 := NB320_319.out; have hcz15_0 : w13.cell? ⟨gb319, 0, none⟩ = some (.int .i64 a0_0) := (blk_cell BK319.out 0).trans rfl; have hcz15_1 : w13.cell? ⟨gb319, 1, none⟩ = some (.slice A0_1 l0_1.length c0_1) := (blk_cell BK319.out 1).trans rfl; have hcz15_2 : w13.cell? ⟨gb319, 2, none⟩ = some (.slice A0_2 l0_2.length c0_2) := (blk_cell BK319.out 2).trans rfl; have hfz15_0 := blk_frozen BK319.out 0; have hfz15_1 := blk_frozen BK319.out 1; have hfz15_2 := blk_frozen BK319.out 2) | ((with_reducible refine gate_callee (f := 8) rfl ?_); refine goesL_ (some 33) rfl rfl Try.func8 (by kernel_rfl) rfl #[.agg #[.int .i64 a0_0, .slice A0_1 l0_1.length c0_1, .slice A0_2 l0_2.length c0_2]] rfl M_ ?_; (with_reducible refine (mainsheetlaw18_short.calls a0_0 _ _ l0_1 _ _ l0_2 t322 t323 t326 _ ?side1 ?side2 ?side3 ?side4 A5.out).mono ?_); (case side1 => exact C_ HR0_1); (case side2 => exact HC0_1.out); (case side3 => exact C_ HR0_2); (case side4 => exact HC0_2.out); rintro e w16 ⟨v324, v327, rfl, ho0, ho1, hb⟩; refine ⟨_, rfl, ?_⟩; have HO325 := Aside0.mk (Kd.R_lower ho0 (below_size L_)); have HO328 := Aside0.mk (Kd.R_lower ho1 (below_size L_)); replace BK319 := Bb_ BK319 hb; replace BK320 := Bb_ BK320 hb; replace HB := Ls_ HB hb; (try clear hb); (try clear hb2); (try clear hk); (try clear hi); (try clear ho0); (try clear ho1)) | ((with_reducible refine gate_dst (N := 5) rfl ?_); refine box_ 5 27 #[.int .i64 0, .slice none 0 0, .slice none 0 0] ?_; intro gb329 hg w17 hbox hb; have BK329 := Aside0.mk (hbox); have GW329 := G_ hg HB; have GE329 := G_ hg HB; have NB319_329 := Nl_ hg BK319; have NB329_319 := Ng_ hg BK319; have NB320_329 := Nl_ hg BK320; have NB329_320 := Ng_ hg BK320; replace HO325 := Rb_ HO325 hb; replace HO328 := Rb_ HO328 hb; replace BK319 := Bb_ BK319 hb; replace BK320 := Bb_ BK320 hb; replace HB := Ls_ HB hb; clear hb hbox hg; have hnb18 := NB329_319.out; have hnc18 := NB319_329.out; have hnb19 := NB329_320.out; have hnc19 := NB320_329.out; have hcz20_0 : w17.cell? ⟨gb329, 0, none⟩ = some (.int .i64 0) := (blk_cell BK329.out 0).trans rfl; have hcz20_1 : w17.cell? ⟨gb329, 1, none⟩ = some (.slice none 0 0) := (blk_cell BK329.out 1).trans rfl; have hcz20_2 : w17.cell? ⟨gb329, 2, none⟩ = some (.slice none 0 0) := (blk_cell BK329.out 2).trans rfl; have hfz20_0 := blk_frozen BK329.out 0; have hfz20_1 := blk_frozen BK329.out 1; have hfz20_2 := blk_frozen BK329.out 2; obtain ⟨Ao21, co21, eo21⟩ := Kd.R_slice HO325.out; subst eo21; obtain ⟨Ao22, co22, eo22⟩ := Kd.R_slice HO328.out; subst eo22) | ((with_reducible refine gate_callee (f := 9) rfl ?_); refine goesL_ (some 35) rfl rfl Try.func9 (by kernel_rfl) rfl #[.agg #[.int .i64 t322, .slice Ao21 t323.length co21, .slice Ao22 t326.length co22]] rfl M_ ?_; (with_reducible refine (vtimer_Check.calls k t322 _ _ t323 _ _ t326 t330 _ ?side1 ?side2 ?side3 ?side4 A6.out).mono ?_); (case side1 => exact Rr_ HO325 BK329); (case side2 => exact (Kd.R_reads' HO325.out).2.1); (case side3 => exact Rr_ HO328 BK329); (case side4 => exact (Kd.R_reads' HO328.out).2.1); rintro e w23 ⟨rfl, hb⟩; refine ⟨_, rfl, ?_⟩; replace HO325 := Aside0.mk (Kd.R_below (Rf_ HO325 BK329) hb); replace HO328 := Aside0.mk (Kd.R_below (Rf_ HO328 BK329) hb); replace BK319 := Aside0.mk (blk_below (Bz_ BK319) hb); replace BK320 := Aside0.mk (blk_below (Bz_ BK320) hb); replace BK329 := Aside0.mk (blk_below (g := gb329) (o := .cells #[.int .i64 t322, .slice Ao21 t323.length co21, .slice Ao22 t326.length co22] 27 (0, 0)) (by (with_reducible repeat (first | refine blk_drewN ?_ _ | refine blk_drew ?_ | refine blk_alloc ?_ _)); refine blk_put (cs := #[.int .i64 t322, .slice Ao21 t323.length co21, .slice none 0 0]) ?_ 2 _ rfl; (with_reducible repeat (first | refine blk_drewN ?_ _ | refine blk_drew ?_ | refine blk_alloc ?_ _)); refine blk_put (cs := #[.int .i64 t322, .slice none 0 0, .slice none 0 0]) ?_ 1 _ rfl; (with_reducible repeat (first | refine blk_drewN ?_ _ | refine blk_drew ?_ | refine blk_alloc ?_ _)); refine blk_put (cs := #[.int .i64 0, .slice none 0 0, .slice none 0 0]) ?_ 0 _ rfl; (with_reducible repeat (first | refine blk_drewN ?_ _ | refine blk_drew ?_ | refine blk_alloc ?_ _)); exact BK329.out) hb); replace HB := Ls_ HB hb; (try clear hb); (try clear hb2); (try clear hk); (try clear hi)))
     have n0_ := Aside0.mk (Kd.R_drew HO325.out)
     have n1_ := Aside0.mk (Kd.R_drew HO328.out)
     have n2_ := Aside0.mk (blk_drew BK319.out)
     have n3_ := Aside0.mk (blk_drew BK320.out)
     have n4_ := Aside0.mk (blk_drew BK329.out)
     have n5_ := Aside0.mk (below_drew1 HB.out)
     clear HO325
     clear HO328
     clear BK319
     clear BK320
     clear BK329
     clear HB
     have HO325 := n0_
     have HO328 := n1_
     have BK319 := n2_
     have BK320 := n3_
     have BK329 := n4_
     have HB := n5_
     clear n0_ n1_ n2_ n3_ n4_ n5_
     refine st_ 13 (fun w' => w'.cell? ⟨gb329, 0, none⟩ = some (.int .i64 t322) ∧ w'.cell? ⟨gb329, 1, none⟩ = some (.slice Ao21 t323.length co21) ∧ w'.cell? ⟨gb329, 2, none⟩ = some (.slice Ao22 t326.length co22) ∧ w'.cell? ⟨gb320, 0, none⟩ = some (.int .i64 a1_0) ∧ w'.cell? ⟨gb320, 1, none⟩ = some (.int .i64 a1_1) ∧ w'.cell? ⟨gb320, 2, none⟩ = some (.int .i64 a1_2) ∧ w'.cell? ⟨gb320, 3, none⟩ = some (.int .i64 a1_3) ∧ w'.cell? ⟨gb320, 4, none⟩ = some (.int .i64 a1_4) ∧ w'.cell? ⟨gb320, 5, none⟩ = some (.int .i64 a1_5) ∧ w'.cell? ⟨gb320, 6, none⟩ = some (.bool a1_6)) [] ⟨(blk_cell BK329.out 0).trans rfl, (blk_cell BK329.out 1).trans rfl, (blk_cell BK329.out 2).trans rfl, (blk_cell BK320.out 0).trans rfl, (blk_cell BK320.out 1).trans rfl, (blk_cell BK320.out 2).trans rfl, (blk_cell BK320.out 3).trans rfl, (blk_cell BK320.out 4).trans rfl, (blk_cell BK320.out 5).trans rfl, (blk_cell BK320.out 6).trans rfl⟩ (fun hHeld => ?_); refine with_tabW mainsheetlaw18_VtimerStops.tab6 mainsheetlaw18_VtimerStops.bits6 (fun HT_ HW_ => ?_)
     generalize w23.drew = w24 at HO325 HO328 BK319 BK320 BK329 HB hHeld ⊢
     refine pu_ 1 39 HT_ ?_
     refine ta_ 0 38 HT_ HW_ rfl rfl hHeld (by rintro w' ⟨s0, s1, s2, s3, s4, s5, s6, s7, s8, s9⟩; go_simp; with_reducible rfl) ?_
     refine ta_ 2 40 HT_ HW_ rfl rfl hHeld (by rintro w' ⟨s0, s1, s2, s3, s4, s5, s6, s7, s8, s9⟩; go_simp; with_reducible rfl) ?_
     refine ta_ 3 41 HT_ HW_ rfl rfl hHeld (by rintro w' ⟨s0, s1, s2, s3, s4, s5, s6, s7, s8, s9⟩; go_simp; with_reducible rfl) ?_
     refine ta_ 4 42 HT_ HW_ rfl rfl hHeld (by rintro w' ⟨s0, s1, s2, s3, s4, s5, s6, s7, s8, s9⟩; go_simp; with_reducible rfl) ?_
     refine join_ (σ := Value × Value × Nat) 2 #[true, true, true, true, true, true, true, true, true, true, true, false, false] (fun s_ => [(43, .int .i64 t331), (44, .tuple #[.agg #[.int .i64 t332, s_.1, s_.2.1], .int .i64 t339]), (6, .pointer (some ⟨s_.2.2, 0, none⟩)), (37, .tuple #[.agg #[.int .i64 t332, s_.1, s_.2.1], .int .i64 t339]), (45, .agg #[.int .i64 t332, s_.1, s_.2.1]), (46, .int .i64 t339)]) (fun s_ w' => (w'.cell? ⟨gb329, 0, none⟩ = some (.int .i64 t322) ∧ w'.cell? ⟨gb329, 1, none⟩ = some (.slice Ao21 t323.length co21) ∧ w'.cell? ⟨gb329, 2, none⟩ = some (.slice Ao22 t326.length co22) ∧ w'.cell? ⟨gb320, 0, none⟩ = some (.int .i64 a1_0) ∧ w'.cell? ⟨gb320, 1, none⟩ = some (.int .i64 a1_1) ∧ w'.cell? ⟨gb320, 2, none⟩ = some (.int .i64 a1_2) ∧ w'.cell? ⟨gb320, 3, none⟩ = some (.int .i64 a1_3) ∧ w'.cell? ⟨gb320, 4, none⟩ = some (.int .i64 a1_4) ∧ w'.cell? ⟨gb320, 5, none⟩ = some (.int .i64 a1_5) ∧ w'.cell? ⟨gb320, 6, none⟩ = some (.bool a1_6)) ∧ (Kd.R k88 88 w' w.heap.size (fun k_ => some k_ ≠ (s_.1 : Value).ownBlock) (.slice Ao21 t323.length co21) t323) ∧ (Kd.R k47 47 w' w.heap.size (fun k_ => some k_ ≠ (s_.2.1 : Value).ownBlock) (.slice Ao22 t326.length co22) t326) ∧ (Kd.R k88 88 w' w.heap.size (fun k_ => some k_ ≠ (.slice Ao21 t323.length co21 : Value).ownBlock) s_.1 t333) ∧ (Kd.R k47 47 w' w.heap.size (fun k_ => some k_ ≠ (.slice Ao22 t326.length co22 : Value).ownBlock) s_.2.1 t336) ∧ (w'.heap[gb319]? = some (.cells #[.int .i64 a0_0, .slice A0_1 l0_1.length c0_1, .slice A0_2 l0_2.length c0_2] 27 (0, 0))) ∧ (w'.heap[gb320]? = some (.cells #[.int .i64 a1_0, .int .i64 a1_1, .int .i64 a1_2, .int .i64 a1_3, .int .i64 a1_4, .int .i64 a1_5, .bool a1_6] 58 (0, 0))) ∧ (w'.heap[gb329]? = some (.cells #[.int .i64 t322, .slice Ao21 t323.length co21, .slice Ao22 t326.length co22] 27 (0, 0))) ∧ (w'.heap[s_.2.2]? = some (.cells #[.int .i64 0, .slice none 0 0, .slice none 0 0] 27 (0, 0))) ∧ (w.heap.size ≤ s_.2.2) ∧ (w.heap.size ≤ s_.2.2) ∧ (gb319 ≠ s_.2.2) ∧ (s_.2.2 ≠ gb319) ∧ (gb320 ≠ s_.2.2) ∧ (s_.2.2 ≠ gb320) ∧ (gb329 ≠ s_.2.2) ∧ (s_.2.2 ≠ gb329) ∧ (Below w.heap.size w w')) ?_ ?_
     rotate_left
     · intro hCont
       refine two_ (i := 5) (j := 10) (Ni := some 43) (Nj := some 6) #[true, true, true, true, true, true, false, false, false, false, false, false, false] #[true, true, true, true, true, false, false, false, false, false, true, false, false] rfl rfl rfl rfl (two_of HT_.out (by kernel_rfl)) (by decide) (by decide) (fun K hK => ?_) (fun K hK => ?_)
       · skip
         refine goes_ Try.func22 (by kernel_rfl) rfl #[.agg #[.int .i64 a1_0, .int .i64 a1_1, .int .i64 a1_2, .int .i64 a1_3, .int .i64 a1_4, .int .i64 a1_5, .bool a1_6], .agg #[.int .i64 t322, .slice Ao21 t323.length co21, .slice Ao22 t326.length co22]] (by rfl) rfl rfl M_ ?_
         with_reducible refine (mainsheetlaw18_Op_time.calls a1_0 a1_1 a1_2 a1_3 a1_4 a1_5 a1_6 t322 _ _ t323 _ _ t326 t331 _ ?side1 ?side2 ?side3 ?side4 A8.out).mono ?_
         (case side1 => exact Rs_ HO325)
         (case side2 => exact (Kd.R_reads' HO325.out).2.1)
         (case side3 => exact Rs_ HO328)
         (case side4 => exact (Kd.R_reads' HO328.out).2.1)
         rintro e w25 ⟨rfl, hb⟩
         refine ⟨_, rfl, ?_⟩
         have n0_ := Rb_ HO325 hb
         have n1_ := Rb_ HO328 hb
         have n2_ := Bb_ BK319 hb
         have n3_ := Bb_ BK320 hb
         have n4_ := Bb_ BK329 hb
         have n5_ := Ls_ HB hb
         clear HO325
         clear HO328
         clear BK319
         clear BK320
         clear BK329
         clear HB
         have HO325 := n0_
         have HO328 := n1_
         have BK319 := n2_
         have BK320 := n3_
         have BK329 := n4_
         have HB := n5_
         clear n0_ n1_ n2_ n3_ n4_ n5_
         (try clear hb)
         (try clear hb2)
         (try clear hk)
         (try clear hi)
         refine hK.out _ _ ⟨(blk_cell BK329.out 0).trans rfl, (blk_cell BK329.out 1).trans rfl, (blk_cell BK329.out 2).trans rfl, (blk_cell BK320.out 0).trans rfl, (blk_cell BK320.out 1).trans rfl, (blk_cell BK320.out 2).trans rfl, (blk_cell BK320.out 3).trans rfl, (blk_cell BK320.out 4).trans rfl, (blk_cell BK320.out 5).trans rfl, (blk_cell BK320.out 6).trans rfl⟩ (fun hHeld => ?_)
         clear hK K
         refine nm_ 43 ?_
         refine two_ (i := 6) (j := 10) (Ni := some 44) (Nj := some 6) #[true, true, true, true, true, true, true, false, false, false, false, false, false] #[true, true, true, true, true, true, false, false, false, false, true, false, false] rfl rfl rfl rfl (two_of HT_.out (by kernel_rfl)) (by decide) (by decide) (fun K hK => ?_) (fun K hK => ?_)
         · skip
           refine goes_ Try.func21 (by kernel_rfl) rfl #[.agg #[.int .i64 t322, .slice Ao21 t323.length co21, .slice Ao22 t326.length co22], .agg #[.int .i64 a1_2, .int .i64 a1_3, .int .i64 a1_4], .int .i64 t331] (by rfl) rfl rfl M_ ?_
           with_reducible refine (vtimer_Start.calls t322 _ _ t323 _ _ t326 a1_2 a1_3 a1_4 t331 t332 t333 t336 t339 _ ?side1 ?side2 ?side3 ?side4 A9.out).mono ?_
           (case side1 => exact Rs_ HO325)
           (case side2 => exact (Kd.R_reads' HO325.out).2.1)
           (case side3 => exact Rs_ HO328)
           (case side4 => exact (Kd.R_reads' HO328.out).2.1)
           rintro e w26 ⟨v334, v337, rfl, ho0, ho1, hb⟩
           refine ⟨_, rfl, ?_⟩
           have n0_ := Aside0.mk (Kd.R_elder' (R_ HO325) (Kd.R_base ho0) hb)
           have n1_ := Aside0.mk (Kd.R_elder' (R_ HO328) (Kd.R_base ho1) hb)
           have n2_ := Aside0.mk (Kd.R_lower (Kd.R_new' ho0 (Kd.R_lt (R_ HO325))) (below_size L_))
           have n3_ := Aside0.mk (Kd.R_lower (Kd.R_new' ho1 (Kd.R_lt (R_ HO328))) (below_size L_))
           have n4_ := Bb_ BK319 hb
           have n5_ := Bb_ BK320 hb
           have n6_ := Bb_ BK329 hb
           have n7_ := Ls_ HB hb
           clear HO325
           clear HO328
           clear BK319
           clear BK320
           clear BK329
           clear HB
           have HO325 := n0_
           have HO328 := n1_
           have HO335 := n2_
           have HO338 := n3_
           have BK319 := n4_
           have BK320 := n5_
           have BK329 := n6_
           have HB := n7_
           clear n0_ n1_ n2_ n3_ n4_ n5_ n6_ n7_
           (try clear hb)
           (try clear hb2)
           (try clear hk)
           (try clear hi)
           (try clear ho0)
           (try clear ho1)
           refine hK.out _ _ ⟨(blk_cell BK329.out 0).trans rfl, (blk_cell BK329.out 1).trans rfl, (blk_cell BK329.out 2).trans rfl, (blk_cell BK320.out 0).trans rfl, (blk_cell BK320.out 1).trans rfl, (blk_cell BK320.out 2).trans rfl, (blk_cell BK320.out 3).trans rfl, (blk_cell BK320.out 4).trans rfl, (blk_cell BK320.out 5).trans rfl, (blk_cell BK320.out 6).trans rfl⟩ (fun hHeld => ?_)
           clear hK K
           refine nm_ 44 ?_
           refine pu_ 7 37 HT_ ?_
           refine pu_ 8 45 HT_ ?_
           refine pu_ 9 46 HT_ ?_
           refine on_ 10 6 HT_ rfl rfl (fun K hK => ?_)
           refine box_step ?hg (N := 6) ?hd (cs := #[.int .i64 0, .slice none 0 0, .slice none 0 0]) (t := 27) ?hr ?_; (case hd => rfl); (case hg => rfl); (case hr => first | (go_simp; done) | (go_simp; rfl))
           intro gb340 hg w27 hbox hb
           have n0_ := Rb_ HO325 hb
           have n1_ := Rb_ HO328 hb
           have n2_ := Rb_ HO335 hb
           have n3_ := Rb_ HO338 hb
           have n4_ := Bb_ BK319 hb
           have n5_ := Bb_ BK320 hb
           have n6_ := Bb_ BK329 hb
           have n7_ := Ls_ HB hb
           have n8_ := Aside0.mk (hbox)
           have n9_ := G_ hg HB
           have n10_ := G_ hg HB
           have n11_ := Nl_ hg BK319
           have n12_ := Ng_ hg BK319
           have n13_ := Nl_ hg BK320
           have n14_ := Ng_ hg BK320
           have n15_ := Nl_ hg BK329
           have n16_ := Ng_ hg BK329
           clear HO325
           clear HO328
           clear HO335
           clear HO338
           clear BK319
           clear BK320
           clear BK329
           clear HB
           have HO325 := n0_
           have HO328 := n1_
           have HO335 := n2_
           have HO338 := n3_
           have BK319 := n4_
           have BK320 := n5_
           have BK329 := n6_
           have HB := n7_
           have BK340 := n8_
           have GW340 := n9_
           have GE340 := n10_
           have NB319_340 := n11_
           have NB340_319 := n12_
           have NB320_340 := n13_
           have NB340_320 := n14_
           have NB329_340 := n15_
           have NB340_329 := n16_
           clear n0_ n1_ n2_ n3_ n4_ n5_ n6_ n7_ n8_ n9_ n10_ n11_ n12_ n13_ n14_ n15_ n16_
           clear hb hbox hg
           refine hK.out _ _ ⟨(blk_cell BK329.out 0).trans rfl, (blk_cell BK329.out 1).trans rfl, (blk_cell BK329.out 2).trans rfl, (blk_cell BK320.out 0).trans rfl, (blk_cell BK320.out 1).trans rfl, (blk_cell BK320.out 2).trans rfl, (blk_cell BK320.out 3).trans rfl, (blk_cell BK320.out 4).trans rfl, (blk_cell BK320.out 5).trans rfl, (blk_cell BK320.out 6).trans rfl⟩ (fun hHeld => ?_)
           clear hK K
           refine nm_ 6 ?_
           exact norm_ (by simp only [putAll, Act.put, List.setIfInBounds_toArray, List.set_cons_zero, List.set_cons_succ]) (hCont (v334, v337, gb340) _ ⟨hHeld, (by (with_reducible repeat (first | apply Kd.R_alloc | apply Kd.R_drewN | apply Kd.R_drew)); exact Kd.R_mono HO325.out (fun _ hk => hk.2)), (by (with_reducible repeat (first | apply Kd.R_alloc | apply Kd.R_drewN | apply Kd.R_drew)); exact Kd.R_mono HO328.out (fun _ hk => hk.2)), (by (with_reducible repeat (first | apply Kd.R_alloc | apply Kd.R_drewN | apply Kd.R_drew)); exact Kd.R_mono HO335.out (fun _ hk => hk.2)), (by (with_reducible repeat (first | apply Kd.R_alloc | apply Kd.R_drewN | apply Kd.R_drew)); exact Kd.R_mono HO338.out (fun _ hk => hk.2)), (B_ BK319), (B_ BK320), (B_ BK329), (B_ BK340), GW340.out, GE340.out, NB319_340.out, NB340_319.out, NB320_340.out, NB340_320.out, NB329_340.out, NB340_329.out, L_⟩)
         · skip
           refine box_step ?hg (N := 6) ?hd (cs := #[.int .i64 0, .slice none 0 0, .slice none 0 0]) (t := 27) ?hr ?_; (case hd => rfl); (case hg => rfl); (case hr => first | (go_simp; done) | (go_simp; rfl))
           intro gb340 hg w26 hbox hb
           have n0_ := Rb_ HO325 hb
           have n1_ := Rb_ HO328 hb
           have n2_ := Bb_ BK319 hb
           have n3_ := Bb_ BK320 hb
           have n4_ := Bb_ BK329 hb
           have n5_ := Ls_ HB hb
           have n6_ := Aside0.mk (hbox)
           have n7_ := G_ hg HB
           have n8_ := G_ hg HB
           have n9_ := Nl_ hg BK319
           have n10_ := Ng_ hg BK319
           have n11_ := Nl_ hg BK320
           have n12_ := Ng_ hg BK320
           have n13_ := Nl_ hg BK329
           have n14_ := Ng_ hg BK329
           clear HO325
           clear HO328
           clear BK319
           clear BK320
           clear BK329
           clear HB
           have HO325 := n0_
           have HO328 := n1_
           have BK319 := n2_
           have BK320 := n3_
           have BK329 := n4_
           have HB := n5_
           have BK340 := n6_
           have GW340 := n7_
           have GE340 := n8_
           have NB319_340 := n9_
           have NB340_319 := n10_
           have NB320_340 := n11_
           have NB340_320 := n12_
           have NB329_340 := n13_
           have NB340_329 := n14_
           clear n0_ n1_ n2_ n3_ n4_ n5_ n6_ n7_ n8_ n9_ n10_ n11_ n12_ n13_ n14_
           clear hb hbox hg
           refine hK.out _ _ ⟨(blk_cell BK329.out 0).trans rfl, (blk_cell BK329.out 1).trans rfl, (blk_cell BK329.out 2).trans rfl, (blk_cell BK320.out 0).trans rfl, (blk_cell BK320.out 1).trans rfl, (blk_cell BK320.out 2).trans rfl, (blk_cell BK320.out 3).trans rfl, (blk_cell BK320.out 4).trans rfl, (blk_cell BK320.out 5).trans rfl, (blk_cell BK320.out 6).trans rfl⟩ (fun hHeld => ?_)
           clear hK K
           refine nm_ 6 ?_
           refine on_ 6 44 HT_ rfl rfl (fun K hK => ?_)
           refine goes_ Try.func21 (by kernel_rfl) rfl #[.agg #[.int .i64 t322, .slice Ao21 t323.length co21, .slice Ao22 t326.length co22], .agg #[.int .i64 a1_2, .int .i64 a1_3, .int .i64 a1_4], .int .i64 t331] (by rfl) rfl rfl M_ ?_
           with_reducible refine (vtimer_Start.calls t322 _ _ t323 _ _ t326 a1_2 a1_3 a1_4 t331 t332 t333 t336 t339 _ ?side1 ?side2 ?side3 ?side4 A9.out).mono ?_
           (case side1 => exact Rs_ HO325)
           (case side2 => exact (Kd.R_reads' HO325.out).2.1)
           (case side3 => exact Rs_ HO328)
           (case side4 => exact (Kd.R_reads' HO328.out).2.1)
           rintro e w27 ⟨v334, v337, rfl, ho0, ho1, hb⟩
           refine ⟨_, rfl, ?_⟩
           have n0_ := Aside0.mk (Kd.R_elder' (R_ HO325) (Kd.R_base ho0) hb)
           have n1_ := Aside0.mk (Kd.R_elder' (R_ HO328) (Kd.R_base ho1) hb)
           have n2_ := Aside0.mk (Kd.R_lower (Kd.R_new' ho0 (Kd.R_lt (R_ HO325))) (below_size L_))
           have n3_ := Aside0.mk (Kd.R_lower (Kd.R_new' ho1 (Kd.R_lt (R_ HO328))) (below_size L_))
           have n4_ := Bb_ BK319 hb
           have n5_ := Bb_ BK320 hb
           have n6_ := Bb_ BK329 hb
           have n7_ := Bb_ BK340 hb
           have n8_ := Ls_ HB hb
           clear HO325
           clear HO328
           clear BK319
           clear BK320
           clear BK329
           clear BK340
           clear HB
           have HO325 := n0_
           have HO328 := n1_
           have HO335 := n2_
           have HO338 := n3_
           have BK319 := n4_
           have BK320 := n5_
           have BK329 := n6_
           have BK340 := n7_
           have HB := n8_
           clear n0_ n1_ n2_ n3_ n4_ n5_ n6_ n7_ n8_
           (try clear hb)
           (try clear hb2)
           (try clear hk)
           (try clear hi)
           (try clear ho0)
           (try clear ho1)
           refine hK.out _ _ ⟨(blk_cell BK329.out 0).trans rfl, (blk_cell BK329.out 1).trans rfl, (blk_cell BK329.out 2).trans rfl, (blk_cell BK320.out 0).trans rfl, (blk_cell BK320.out 1).trans rfl, (blk_cell BK320.out 2).trans rfl, (blk_cell BK320.out 3).trans rfl, (blk_cell BK320.out 4).trans rfl, (blk_cell BK320.out 5).trans rfl, (blk_cell BK320.out 6).trans rfl⟩ (fun hHeld => ?_)
           clear hK K
           refine nm_ 44 ?_
           refine pu_ 7 37 HT_ ?_
           refine pu_ 8 45 HT_ ?_
           refine pu_ 9 46 HT_ ?_
           exact norm_ (by simp only [putAll, Act.put, List.setIfInBounds_toArray, List.set_cons_zero, List.set_cons_succ]) (hCont (v334, v337, gb340) _ ⟨hHeld, (by (with_reducible repeat (first | apply Kd.R_alloc | apply Kd.R_drewN | apply Kd.R_drew)); exact Kd.R_mono HO325.out (fun _ hk => hk.2)), (by (with_reducible repeat (first | apply Kd.R_alloc | apply Kd.R_drewN | apply Kd.R_drew)); exact Kd.R_mono HO328.out (fun _ hk => hk.2)), (by (with_reducible repeat (first | apply Kd.R_alloc | apply Kd.R_drewN | apply Kd.R_drew)); exact Kd.R_mono HO335.out (fun _ hk => hk.2)), (by (with_reducible repeat (first | apply Kd.R_alloc | apply Kd.R_drewN | apply Kd.R_drew)); exact Kd.R_mono HO338.out (fun _ hk => hk.2)), (B_ BK319), (B_ BK320), (B_ BK329), (B_ BK340), GW340.out, GE340.out, NB319_340.out, NB340_319.out, NB320_340.out, NB340_320.out, NB329_340.out, NB340_329.out, L_⟩)
       · skip
         refine box_step ?hg (N := 6) ?hd (cs := #[.int .i64 0, .slice none 0 0, .slice none 0 0]) (t := 27) ?hr ?_; (case hd => rfl); (case hg => rfl); (case hr => first | (go_simp; done) | (go_simp; rfl))
         intro gb340 hg w25 hbox hb
         have n0_ := Rb_ HO325 hb
         have n1_ := Rb_ HO328 hb
         have n2_ := Bb_ BK319 hb
         have n3_ := Bb_ BK320 hb
         have n4_ := Bb_ BK329 hb
         have n5_ := Ls_ HB hb
         have n6_ := Aside0.mk (hbox)
         have n7_ := G_ hg HB
         have n8_ := G_ hg HB
         have n9_ := Nl_ hg BK319
         have n10_ := Ng_ hg BK319
         have n11_ := Nl_ hg BK320
         have n12_ := Ng_ hg BK320
         have n13_ := Nl_ hg BK329
         have n14_ := Ng_ hg BK329
         clear HO325
         clear HO328
         clear BK319
         clear BK320
         clear BK329
         clear HB
         have HO325 := n0_
         have HO328 := n1_
         have BK319 := n2_
         have BK320 := n3_
         have BK329 := n4_
         have HB := n5_
         have BK340 := n6_
         have GW340 := n7_
         have GE340 := n8_
         have NB319_340 := n9_
         have NB340_319 := n10_
         have NB320_340 := n11_
         have NB340_320 := n12_
         have NB329_340 := n13_
         have NB340_329 := n14_
         clear n0_ n1_ n2_ n3_ n4_ n5_ n6_ n7_ n8_ n9_ n10_ n11_ n12_ n13_ n14_
         clear hb hbox hg
         refine hK.out _ _ ⟨(blk_cell BK329.out 0).trans rfl, (blk_cell BK329.out 1).trans rfl, (blk_cell BK329.out 2).trans rfl, (blk_cell BK320.out 0).trans rfl, (blk_cell BK320.out 1).trans rfl, (blk_cell BK320.out 2).trans rfl, (blk_cell BK320.out 3).trans rfl, (blk_cell BK320.out 4).trans rfl, (blk_cell BK320.out 5).trans rfl, (blk_cell BK320.out 6).trans rfl⟩ (fun hHeld => ?_)
         clear hK K
         refine nm_ 6 ?_
         refine on_ 5 43 HT_ rfl rfl (fun K hK => ?_)
         refine goes_ Try.func22 (by kernel_rfl) rfl #[.agg #[.int .i64 a1_0, .int .i64 a1_1, .int .i64 a1_2, .int .i64 a1_3, .int .i64 a1_4, .int .i64 a1_5, .bool a1_6], .agg #[.int .i64 t322, .slice Ao21 t323.length co21, .slice Ao22 t326.length co22]] (by rfl) rfl rfl M_ ?_
         with_reducible refine (mainsheetlaw18_Op_time.calls a1_0 a1_1 a1_2 a1_3 a1_4 a1_5 a1_6 t322 _ _ t323 _ _ t326 t331 _ ?side1 ?side2 ?side3 ?side4 A8.out).mono ?_
         (case side1 => exact Rs_ HO325)
         (case side2 => exact (Kd.R_reads' HO325.out).2.1)
         (case side3 => exact Rs_ HO328)
         (case side4 => exact (Kd.R_reads' HO328.out).2.1)
         rintro e w26 ⟨rfl, hb⟩
         refine ⟨_, rfl, ?_⟩
         have n0_ := Rb_ HO325 hb
         have n1_ := Rb_ HO328 hb
         have n2_ := Bb_ BK319 hb
         have n3_ := Bb_ BK320 hb
         have n4_ := Bb_ BK329 hb
         have n5_ := Bb_ BK340 hb
         have n6_ := Ls_ HB hb
         clear HO325
         clear HO328
         clear BK319
         clear BK320
         clear BK329
         clear BK340
         clear HB
         have HO325 := n0_
         have HO328 := n1_
         have BK319 := n2_
         have BK320 := n3_
         have BK329 := n4_
         have BK340 := n5_
         have HB := n6_
         clear n0_ n1_ n2_ n3_ n4_ n5_ n6_
         (try clear hb)
         (try clear hb2)
         (try clear hk)
         (try clear hi)
         refine hK.out _ _ ⟨(blk_cell BK329.out 0).trans rfl, (blk_cell BK329.out 1).trans rfl, (blk_cell BK329.out 2).trans rfl, (blk_cell BK320.out 0).trans rfl, (blk_cell BK320.out 1).trans rfl, (blk_cell BK320.out 2).trans rfl, (blk_cell BK320.out 3).trans rfl, (blk_cell BK320.out 4).trans rfl, (blk_cell BK320.out 5).trans rfl, (blk_cell BK320.out 6).trans rfl⟩ (fun hHeld => ?_)
         clear hK K
         refine nm_ 43 ?_
         refine on_ 6 44 HT_ rfl rfl (fun K hK => ?_)
         refine goes_ Try.func21 (by kernel_rfl) rfl #[.agg #[.int .i64 t322, .slice Ao21 t323.length co21, .slice Ao22 t326.length co22], .agg #[.int .i64 a1_2, .int .i64 a1_3, .int .i64 a1_4], .int .i64 t331] (by rfl) rfl rfl M_ ?_
         with_reducible refine (vtimer_Start.calls t322 _ _ t323 _ _ t326 a1_2 a1_3 a1_4 t331 t332 t333 t336 t339 _ ?side1 ?side2 ?side3 ?side4 A9.out).mono ?_
         (case side1 => exact Rs_ HO325)
         (case side2 => exact (Kd.R_reads' HO325.out).2.1)
         (case side3 => exact Rs_ HO328)
         (case side4 => exact (Kd.R_reads' HO328.out).2.1)
         rintro e w27 ⟨v334, v337, rfl, ho0, ho1, hb⟩
         refine ⟨_, rfl, ?_⟩
         have n0_ := Aside0.mk (Kd.R_elder' (R_ HO325) (Kd.R_base ho0) hb)
         have n1_ := Aside0.mk (Kd.R_elder' (R_ HO328) (Kd.R_base ho1) hb)
         have n2_ := Aside0.mk (Kd.R_lower (Kd.R_new' ho0 (Kd.R_lt (R_ HO325))) (below_size L_))
         have n3_ := Aside0.mk (Kd.R_lower (Kd.R_new' ho1 (Kd.R_lt (R_ HO328))) (below_size L_))
         have n4_ := Bb_ BK319 hb
         have n5_ := Bb_ BK320 hb
         have n6_ := Bb_ BK329 hb
         have n7_ := Bb_ BK340 hb
         have n8_ := Ls_ HB hb
         clear HO325
         clear HO328
         clear BK319
         clear BK320
         clear BK329
         clear BK340
         clear HB
         have HO325 := n0_
         have HO328 := n1_
         have HO335 := n2_
         have HO338 := n3_
         have BK319 := n4_
         have BK320 := n5_
         have BK329 := n6_
         have BK340 := n7_
         have HB := n8_
         clear n0_ n1_ n2_ n3_ n4_ n5_ n6_ n7_ n8_
         (try clear hb)
         (try clear hb2)
         (try clear hk)
         (try clear hi)
         (try clear ho0)
         (try clear ho1)
         refine hK.out _ _ ⟨(blk_cell BK329.out 0).trans rfl, (blk_cell BK329.out 1).trans rfl, (blk_cell BK329.out 2).trans rfl, (blk_cell BK320.out 0).trans rfl, (blk_cell BK320.out 1).trans rfl, (blk_cell BK320.out 2).trans rfl, (blk_cell BK320.out 3).trans rfl, (blk_cell BK320.out 4).trans rfl, (blk_cell BK320.out 5).trans rfl, (blk_cell BK320.out 6).trans rfl⟩ (fun hHeld => ?_)
         clear hK K
         refine nm_ 44 ?_
         refine pu_ 7 37 HT_ ?_
         refine pu_ 8 45 HT_ ?_
         refine pu_ 9 46 HT_ ?_
         exact norm_ (by simp only [putAll, Act.put, List.setIfInBounds_toArray, List.set_cons_zero, List.set_cons_succ]) (hCont (v334, v337, gb340) _ ⟨hHeld, (by (with_reducible repeat (first | apply Kd.R_alloc | apply Kd.R_drewN | apply Kd.R_drew)); exact Kd.R_mono HO325.out (fun _ hk => hk.2)), (by (with_reducible repeat (first | apply Kd.R_alloc | apply Kd.R_drewN | apply Kd.R_drew)); exact Kd.R_mono HO328.out (fun _ hk => hk.2)), (by (with_reducible repeat (first | apply Kd.R_alloc | apply Kd.R_drewN | apply Kd.R_drew)); exact Kd.R_mono HO335.out (fun _ hk => hk.2)), (by (with_reducible repeat (first | apply Kd.R_alloc | apply Kd.R_drewN | apply Kd.R_drew)); exact Kd.R_mono HO338.out (fun _ hk => hk.2)), (B_ BK319), (B_ BK320), (B_ BK329), (B_ BK340), GW340.out, GE340.out, NB319_340.out, NB340_319.out, NB320_340.out, NB340_320.out, NB329_340.out, NB340_329.out, L_⟩)
     rintro ⟨v334, v337, gb340⟩ w28 ⟨hS_, h0_, h1_, h2_, h3_, h4_, h5_, h6_, h7_, h8_, h9_, h10_, h11_, h12_, h13_, h14_, h15_, h16_⟩
     have n0_ : Aside0 (Kd.R k88 88 w28 w.heap.size (fun k_ => some k_ ≠ (v334 : Value).ownBlock) (.slice Ao21 t323.length co21) t323) := ⟨h0_⟩
     have n1_ : Aside0 (Kd.R k47 47 w28 w.heap.size (fun k_ => some k_ ≠ (v337 : Value).ownBlock) (.slice Ao22 t326.length co22) t326) := ⟨h1_⟩
     have n2_ : Aside0 (Kd.R k88 88 w28 w.heap.size (fun k_ => some k_ ≠ (.slice Ao21 t323.length co21 : Value).ownBlock) v334 t333) := ⟨h2_⟩
     have n3_ : Aside0 (Kd.R k47 47 w28 w.heap.size (fun k_ => some k_ ≠ (.slice Ao22 t326.length co22 : Value).ownBlock) v337 t336) := ⟨h3_⟩
     have n4_ : Aside0 (w28.heap[gb319]? = some (.cells #[.int .i64 a0_0, .slice A0_1 l0_1.length c0_1, .slice A0_2 l0_2.length c0_2] 27 (0, 0))) := ⟨h4_⟩
     have n5_ : Aside0 (w28.heap[gb320]? = some (.cells #[.int .i64 a1_0, .int .i64 a1_1, .int .i64 a1_2, .int .i64 a1_3, .int .i64 a1_4, .int .i64 a1_5, .bool a1_6] 58 (0, 0))) := ⟨h5_⟩
     have n6_ : Aside0 (w28.heap[gb329]? = some (.cells #[.int .i64 t322, .slice Ao21 t323.length co21, .slice Ao22 t326.length co22] 27 (0, 0))) := ⟨h6_⟩
     have n7_ : Aside0 (w28.heap[gb340]? = some (.cells #[.int .i64 0, .slice none 0 0, .slice none 0 0] 27 (0, 0))) := ⟨h7_⟩
     have n8_ : Aside0 (w.heap.size ≤ gb340) := ⟨h8_⟩
     have n9_ : Aside0 (w.heap.size ≤ gb340) := ⟨h9_⟩
     have n10_ : Aside0 (gb319 ≠ gb340) := ⟨h10_⟩
     have n11_ : Aside0 (gb340 ≠ gb319) := ⟨h11_⟩
     have n12_ : Aside0 (gb320 ≠ gb340) := ⟨h12_⟩
     have n13_ : Aside0 (gb340 ≠ gb320) := ⟨h13_⟩
     have n14_ : Aside0 (gb329 ≠ gb340) := ⟨h14_⟩
     have n15_ : Aside0 (gb340 ≠ gb329) := ⟨h15_⟩
     have n16_ : Aside0 (Below w.heap.size w w28) := ⟨h16_⟩
     clear HO325
     clear HO328
     clear BK319
     clear BK320
     clear BK329
     clear HB
     clear h0_ h1_ h2_ h3_ h4_ h5_ h6_ h7_ h8_ h9_ h10_ h11_ h12_ h13_ h14_ h15_ h16_
     have HO325 := n0_
     have HO328 := n1_
     have HO335 := n2_
     have HO338 := n3_
     have BK319 := n4_
     have BK320 := n5_
     have BK329 := n6_
     have BK340 := n7_
     have GW340 := n8_
     have GE340 := n9_
     have NB319_340 := n10_
     have NB340_319 := n11_
     have NB320_340 := n12_
     have NB340_320 := n13_
     have NB329_340 := n14_
     have NB340_329 := n15_
     have HB := n16_
     clear n0_ n1_ n2_ n3_ n4_ n5_ n6_ n7_ n8_ n9_ n10_ n11_ n12_ n13_ n14_ n15_ n16_
     have hHeld : w28.cell? ⟨gb329, 0, none⟩ = some (.int .i64 t322) ∧ w28.cell? ⟨gb329, 1, none⟩ = some (.slice Ao21 t323.length co21) ∧ w28.cell? ⟨gb329, 2, none⟩ = some (.slice Ao22 t326.length co22) ∧ w28.cell? ⟨gb320, 0, none⟩ = some (.int .i64 a1_0) ∧ w28.cell? ⟨gb320, 1, none⟩ = some (.int .i64 a1_1) ∧ w28.cell? ⟨gb320, 2, none⟩ = some (.int .i64 a1_2) ∧ w28.cell? ⟨gb320, 3, none⟩ = some (.int .i64 a1_3) ∧ w28.cell? ⟨gb320, 4, none⟩ = some (.int .i64 a1_4) ∧ w28.cell? ⟨gb320, 5, none⟩ = some (.int .i64 a1_5) ∧ w28.cell? ⟨gb320, 6, none⟩ = some (.bool a1_6) := hS_
     obtain ⟨Ao30, co30, eo30⟩ := Kd.R_slice HO335.out
     (first | subst eo30 | (injection eo30 with f1_ f2_ f3_; have f4_ := f1_.symm; have f5_ := f3_.symm; clear f1_ f2_ f3_; subst f4_; subst f5_))
     obtain ⟨Ao32, co32, eo32⟩ := Kd.R_slice HO338.out
     (first | subst eo32 | (injection eo32 with f1_ f2_ f3_; have f4_ := f1_.symm; have f5_ := f3_.symm; clear f1_ f2_ f3_; subst f4_; subst f5_))
     refine norm_ (a' := ?_) ?_ ?_
     rotate_left
     · simp only [putAll, Act.put, List.setIfInBounds_toArray, List.set_cons_zero, List.set_cons_succ]
       rfl
     refine one_ (i := 11) (N := none) #[true, true, true, true, true, true, true, true, true, true, true, true, false] rfl rfl (one_of HT_.out (by kernel_rfl)) (by decide) (fun K hK => ?_)
     have hs29 : w28.cell? ⟨gb340, 0, none⟩ = some (.int .i64 0) := (blk_cell BK340.out 0).trans rfl
     have hfs29 := blk_frozen BK340.out 0
     have hns29_0 := NB319_340.out
     have hns29_1 := NB320_340.out
     have hns29_2 := NB329_340.out
     have hms29_0 := NB340_319.out
     have hms29_1 := NB340_320.out
     have hms29_2 := NB340_329.out
     have hs31 : w28.cell? ⟨gb340, 1, none⟩ = some (.slice none 0 0) := (blk_cell BK340.out 1).trans rfl
     have hfs31 := blk_frozen BK340.out 1
     have hns31_0 := NB319_340.out
     have hns31_1 := NB320_340.out
     have hns31_2 := NB329_340.out
     have hms31_0 := NB340_319.out
     have hms31_1 := NB340_320.out
     have hms31_2 := NB340_329.out
     have hs33 : w28.cell? ⟨gb340, 2, none⟩ = some (.slice none 0 0) := (blk_cell BK340.out 2).trans rfl
     have hfs33 := blk_frozen BK340.out 2
     have hns33_0 := NB319_340.out
     have hns33_1 := NB320_340.out
     have hns33_2 := NB329_340.out
     have hms33_0 := NB340_319.out
     have hms33_1 := NB340_320.out
     have hms33_2 := NB340_329.out
     refine skip_ (w1 := ?_) (by rfl) rfl ?_ ?_
     rotate_left
     · go_simp
       rfl
     refine hK.out _ _ ⟨((cell_far (p := ⟨gb340, _, none⟩) NB329_340.out _).trans (((cell_far (p := ⟨gb340, _, none⟩) NB329_340.out _).trans (((cell_far (p := ⟨gb340, _, none⟩) NB329_340.out _).trans (hHeld.1)))))), ((cell_far (p := ⟨gb340, _, none⟩) NB329_340.out _).trans (((cell_far (p := ⟨gb340, _, none⟩) NB329_340.out _).trans (((cell_far (p := ⟨gb340, _, none⟩) NB329_340.out _).trans (hHeld.2.1)))))), ((cell_far (p := ⟨gb340, _, none⟩) NB329_340.out _).trans (((cell_far (p := ⟨gb340, _, none⟩) NB329_340.out _).trans (((cell_far (p := ⟨gb340, _, none⟩) NB329_340.out _).trans (hHeld.2.2.1)))))), ((cell_far (p := ⟨gb340, _, none⟩) NB320_340.out _).trans (((cell_far (p := ⟨gb340, _, none⟩) NB320_340.out _).trans (((cell_far (p := ⟨gb340, _, none⟩) NB320_340.out _).trans (hHeld.2.2.2.1)))))), ((cell_far (p := ⟨gb340, _, none⟩) NB320_340.out _).trans (((cell_far (p := ⟨gb340, _, none⟩) NB320_340.out _).trans (((cell_far (p := ⟨gb340, _, none⟩) NB320_340.out _).trans (hHeld.2.2.2.2.1)))))), ((cell_far (p := ⟨gb340, _, none⟩) NB320_340.out _).trans (((cell_far (p := ⟨gb340, _, none⟩) NB320_340.out _).trans (((cell_far (p := ⟨gb340, _, none⟩) NB320_340.out _).trans (hHeld.2.2.2.2.2.1)))))), ((cell_far (p := ⟨gb340, _, none⟩) NB320_340.out _).trans (((cell_far (p := ⟨gb340, _, none⟩) NB320_340.out _).trans (((cell_far (p := ⟨gb340, _, none⟩) NB320_340.out _).trans (hHeld.2.2.2.2.2.2.1)))))), ((cell_far (p := ⟨gb340, _, none⟩) NB320_340.out _).trans (((cell_far (p := ⟨gb340, _, none⟩) NB320_340.out _).trans (((cell_far (p := ⟨gb340, _, none⟩) NB320_340.out _).trans (hHeld.2.2.2.2.2.2.2.1)))))), ((cell_far (p := ⟨gb340, _, none⟩) NB320_340.out _).trans (((cell_far (p := ⟨gb340, _, none⟩) NB320_340.out _).trans (((cell_far (p := ⟨gb340, _, none⟩) NB320_340.out _).trans (hHeld.2.2.2.2.2.2.2.2.1)))))), ((cell_far (p := ⟨gb340, _, none⟩) NB320_340.out _).trans (((cell_far (p := ⟨gb340, _, none⟩) NB320_340.out _).trans (((cell_far (p := ⟨gb340, _, none⟩) NB320_340.out _).trans (hHeld.2.2.2.2.2.2.2.2.2))))))⟩ (fun hHeld => ?_)
     clear hK K
     refine pu_ 12 7 HT_ ?_
     refine done_ (done_of HT_.out (by kernel_rfl)) ?_
     go_upto_if 48 with (fail)
     go_cut [] (fun wc => ∃ (kq : Nat), Aside0 (mainsheetlaw18_VtimerStops.j2 kq a1_0 a1_1 a1_2 a1_3 a1_4 a1_5 a1_6 t322 t323 t326 = some r) ∧ Aside0 (kq ≤ k) ∧ Aside0 (Kd.R k88 88 wc w.heap.size (fun k_ => some k_ ≠ ((.slice Ao30 t333.length co30) : Value).ownBlock) (.slice Ao21 t323.length co21) t323) ∧ Aside0 (Kd.R k47 47 wc w.heap.size (fun k_ => some k_ ≠ ((.slice Ao32 t336.length co32) : Value).ownBlock) (.slice Ao22 t326.length co22) t326) ∧ Aside0 (Kd.R k88 88 wc w.heap.size (fun k_ => some k_ ≠ ((.slice Ao21 t323.length co21) : Value).ownBlock) (.slice Ao30 t333.length co30) t333) ∧ Aside0 (Kd.R k47 47 wc w.heap.size (fun k_ => some k_ ≠ ((.slice Ao22 t326.length co22) : Value).ownBlock) (.slice Ao32 t336.length co32) t336) ∧ Aside0 (wc.heap[gb320]? = some (.cells #[.int .i64 a1_0, .int .i64 a1_1, .int .i64 a1_2, .int .i64 a1_3, .int .i64 a1_4, .int .i64 a1_5, .bool a1_6] 58 (0, 0))) ∧ Aside0 (wc.heap[gb329]? = some (.cells #[.int .i64 t322, (.slice Ao21 t323.length co21), (.slice Ao22 t326.length co22)] 27 (0, 0))) ∧ Aside0 (wc.heap[gb340]? = some (.cells #[.int .i64 t332, (.slice Ao30 t333.length co30), (.slice Ao32 t336.length co32)] 27 (0, 0))) ∧ Aside0 (Below w.heap.size w wc))
     case first =>
      have H := HC10.out
      clear HC10
      by_cases c34 : t339 = 0
      · rw [if_pos c34] at H
        have c34b0 : (t339 == 0) = true := beq_iff_eq.mpr c34
        have c34b1 : (t339 != 0) = false := bne_eq_false_iff_eq.mpr c34
        clear c34
        (first | rw [c34b0] | (simp only [i64_w, i32_w]; rw [c34b0]) | skip)
        replace H := Option.bind_eq_some_iff.mp H
        obtain ⟨⟨t341, t342, t343, t344, t345⟩, A350, H⟩ := H
        replace H : ((vtimer_Stop.f t332 t333 t336 a1_2).bind fun bt347 => ((vtimer_Get.f k bt347.1 bt347.2.1 bt347.2.2.1 a1_2).bind fun bt356 => ((vtimer_Pass.f bt347.1 bt347.2.1 bt347.2.2.1 1125899906842624).bind fun bt362 => (if t345 = true then (if (!(t341 == a1_2) || (!(t342 == a1_3) || (!(t343 == a1_4)))) = true then (mainsheetlaw18_VtimerStops.j0 k bt362.2.2.2.1 true a1_0 a1_1 a1_2 a1_3 a1_4 a1_5 a1_6 t322 t323 t326) else ((mainsheetlaw18_Op_time.f a1_0 a1_1 a1_2 a1_3 a1_4 a1_5 a1_6 t322 t323 t326).bind fun t374 => (if t344 = t374 then (if bt347.2.2.2 = 0 then (if bt356.2.2.2.2 = true then (mainsheetlaw18_VtimerStops.j0 k bt362.2.2.2.1 true a1_0 a1_1 a1_2 a1_3 a1_4 a1_5 a1_6 t322 t323 t326) else (mainsheetlaw18_VtimerStops.j0 k bt362.2.2.2.1 (bt362.2.2.2.2 != 0) a1_0 a1_1 a1_2 a1_3 a1_4 a1_5 a1_6 t322 t323 t326)) else (mainsheetlaw18_VtimerStops.j0 k bt362.2.2.2.1 true a1_0 a1_1 a1_2 a1_3 a1_4 a1_5 a1_6 t322 t323 t326)) else (mainsheetlaw18_VtimerStops.j0 k bt362.2.2.2.1 true a1_0 a1_1 a1_2 a1_3 a1_4 a1_5 a1_6 t322 t323 t326)))) else (mainsheetlaw18_VtimerStops.j0 k bt362.2.2.2.1 true a1_0 a1_1 a1_2 a1_3 a1_4 a1_5 a1_6 t322 t323 t326))))) = some r := H
        have A35 := Aside0.mk A350
        clear A350
        replace H := Option.bind_eq_some_iff.mp H
        obtain ⟨⟨t347, t348, t351, t354⟩, A360, H⟩ := H
        replace H : ((vtimer_Get.f k t347 t348 t351 a1_2).bind fun bt356 => ((vtimer_Pass.f t347 t348 t351 1125899906842624).bind fun bt362 => (if t345 = true then (if (!(t341 == a1_2) || (!(t342 == a1_3) || (!(t343 == a1_4)))) = true then (mainsheetlaw18_VtimerStops.j0 k bt362.2.2.2.1 true a1_0 a1_1 a1_2 a1_3 a1_4 a1_5 a1_6 t322 t323 t326) else ((mainsheetlaw18_Op_time.f a1_0 a1_1 a1_2 a1_3 a1_4 a1_5 a1_6 t322 t323 t326).bind fun t374 => (if t344 = t374 then (if t354 = 0 then (if bt356.2.2.2.2 = true then (mainsheetlaw18_VtimerStops.j0 k bt362.2.2.2.1 true a1_0 a1_1 a1_2 a1_3 a1_4 a1_5 a1_6 t322 t323 t326) else (mainsheetlaw18_VtimerStops.j0 k bt362.2.2.2.1 (bt362.2.2.2.2 != 0) a1_0 a1_1 a1_2 a1_3 a1_4 a1_5 a1_6 t322 t323 t326)) else (mainsheetlaw18_VtimerStops.j0 k bt362.2.2.2.1 true a1_0 a1_1 a1_2 a1_3 a1_4 a1_5 a1_6 t322 t323 t326)) else (mainsheetlaw18_VtimerStops.j0 k bt362.2.2.2.1 true a1_0 a1_1 a1_2 a1_3 a1_4 a1_5 a1_6 t322 t323 t326)))) else (mainsheetlaw18_VtimerStops.j0 k bt362.2.2.2.1 true a1_0 a1_1 a1_2 a1_3 a1_4 a1_5 a1_6 t322 t323 t326)))) = some r := H
        have A36 := Aside0.mk A360
        clear A360
        replace H := Option.bind_eq_some_iff.mp H
        obtain ⟨⟨t356, t357, t358, t359, t360⟩, A370, H⟩ := H
        replace H : ((vtimer_Pass.f t347 t348 t351 1125899906842624).bind fun bt362 => (if t345 = true then (if (!(t341 == a1_2) || (!(t342 == a1_3) || (!(t343 == a1_4)))) = true then (mainsheetlaw18_VtimerStops.j0 k bt362.2.2.2.1 true a1_0 a1_1 a1_2 a1_3 a1_4 a1_5 a1_6 t322 t323 t326) else ((mainsheetlaw18_Op_time.f a1_0 a1_1 a1_2 a1_3 a1_4 a1_5 a1_6 t322 t323 t326).bind fun t374 => (if t344 = t374 then (if t354 = 0 then (if t360 = true then (mainsheetlaw18_VtimerStops.j0 k bt362.2.2.2.1 true a1_0 a1_1 a1_2 a1_3 a1_4 a1_5 a1_6 t322 t323 t326) else (mainsheetlaw18_VtimerStops.j0 k bt362.2.2.2.1 (bt362.2.2.2.2 != 0) a1_0 a1_1 a1_2 a1_3 a1_4 a1_5 a1_6 t322 t323 t326)) else (mainsheetlaw18_VtimerStops.j0 k bt362.2.2.2.1 true a1_0 a1_1 a1_2 a1_3 a1_4 a1_5 a1_6 t322 t323 t326)) else (mainsheetlaw18_VtimerStops.j0 k bt362.2.2.2.1 true a1_0 a1_1 a1_2 a1_3 a1_4 a1_5 a1_6 t322 t323 t326)))) else (mainsheetlaw18_VtimerStops.j0 k bt362.2.2.2.1 true a1_0 a1_1 a1_2 a1_3 a1_4 a1_5 a1_6 t322 t323 t326))) = some r := H
        have A37 := Aside0.mk A370
        clear A370
        replace H := Option.bind_eq_some_iff.mp H
        obtain ⟨⟨t362, t363, t366, t369, t372⟩, A380, H⟩ := H
        replace H : (if t345 = true then (if (!(t341 == a1_2) || (!(t342 == a1_3) || (!(t343 == a1_4)))) = true then (mainsheetlaw18_VtimerStops.j0 k t369 true a1_0 a1_1 a1_2 a1_3 a1_4 a1_5 a1_6 t322 t323 t326) else ((mainsheetlaw18_Op_time.f a1_0 a1_1 a1_2 a1_3 a1_4 a1_5 a1_6 t322 t323 t326).bind fun t374 => (if t344 = t374 then (if t354 = 0 then (if t360 = true then (mainsheetlaw18_VtimerStops.j0 k t369 true a1_0 a1_1 a1_2 a1_3 a1_4 a1_5 a1_6 t322 t323 t326) else (mainsheetlaw18_VtimerStops.j0 k t369 (t372 != 0) a1_0 a1_1 a1_2 a1_3 a1_4 a1_5 a1_6 t322 t323 t326)) else (mainsheetlaw18_VtimerStops.j0 k t369 true a1_0 a1_1 a1_2 a1_3 a1_4 a1_5 a1_6 t322 t323 t326)) else (mainsheetlaw18_VtimerStops.j0 k t369 true a1_0 a1_1 a1_2 a1_3 a1_4 a1_5 a1_6 t322 t323 t326)))) else (mainsheetlaw18_VtimerStops.j0 k t369 true a1_0 a1_1 a1_2 a1_3 a1_4 a1_5 a1_6 t322 t323 t326)) = some r := H
        have A38 := Aside0.mk A380
        clear A380
        have HC39 := Aside0.mk H
        clear H
        have hnb40 := NB340_319.out
        have hnc40 := NB319_340.out
        have hnb41 := NB340_320.out
        have hnc41 := NB320_340.out
        have hnb42 := NB340_329.out
        have hnc42 := NB329_340.out
        have hcz43_0 : w28.cell? ⟨gb340, 0, none⟩ = some (.int .i64 0) := (blk_cell BK340.out 0).trans rfl
        have hcz43_1 : w28.cell? ⟨gb340, 1, none⟩ = some (.slice none 0 0) := (blk_cell BK340.out 1).trans rfl
        have hcz43_2 : w28.cell? ⟨gb340, 2, none⟩ = some (.slice none 0 0) := (blk_cell BK340.out 2).trans rfl
        have hfz43_0 := blk_frozen BK340.out 0
        have hfz43_1 := blk_frozen BK340.out 1
        have hfz43_2 := blk_frozen BK340.out 2
        have hnb44 := NB320_319.out
        have hnc44 := NB319_320.out
        have hnb45 := NB320_329.out
        have hnc45 := NB329_320.out
        have hcz46_0 : w28.cell? ⟨gb320, 0, none⟩ = some (.int .i64 a1_0) := (blk_cell BK320.out 0).trans rfl
        have hcz46_1 : w28.cell? ⟨gb320, 1, none⟩ = some (.int .i64 a1_1) := (blk_cell BK320.out 1).trans rfl
        have hcz46_2 : w28.cell? ⟨gb320, 2, none⟩ = some (.int .i64 a1_2) := (blk_cell BK320.out 2).trans rfl
        have hcz46_3 : w28.cell? ⟨gb320, 3, none⟩ = some (.int .i64 a1_3) := (blk_cell BK320.out 3).trans rfl
        have hcz46_4 : w28.cell? ⟨gb320, 4, none⟩ = some (.int .i64 a1_4) := (blk_cell BK320.out 4).trans rfl
        have hcz46_5 : w28.cell? ⟨gb320, 5, none⟩ = some (.int .i64 a1_5) := (blk_cell BK320.out 5).trans rfl
        have hcz46_6 : w28.cell? ⟨gb320, 6, none⟩ = some (.bool a1_6) := (blk_cell BK320.out 6).trans rfl
        have hfz46_0 := blk_frozen BK320.out 0
        have hfz46_1 := blk_frozen BK320.out 1
        have hfz46_2 := blk_frozen BK320.out 2
        have hfz46_3 := blk_frozen BK320.out 3
        have hfz46_4 := blk_frozen BK320.out 4
        have hfz46_5 := blk_frozen BK320.out 5
        have hfz46_6 := blk_frozen BK320.out 6
        go_upto_region 12 with (first | ((with_reducible refine gate_callee (f := 14) rfl ?_); refine goesL_ (some 54) rfl rfl Try.func14 (by kernel_rfl) rfl #[.agg #[.int .i64 t332, .slice Ao30 t333.length co30, .slice Ao32 t336.length co32], .int .i64 a1_2] rfl M_ ?_; (with_reducible refine (vtimer_Get.calls k t332 _ _ t333 _ _ t336 a1_2 t341 t342 t343 t344 t345 _ ?side1 ?side2 ?side3 ?side4 A35.out).mono ?_); (case side1 => exact Rr_ HO335 BK340); (case side2 => exact (Kd.R_reads' HO335.out).2.1); (case side3 => exact Rr_ HO338 BK340); (case side4 => exact (Kd.R_reads' HO338.out).2.1); rintro e w47 ⟨rfl, hb⟩; refine ⟨_, rfl, ?_⟩; replace HO325 := Aside0.mk (Kd.R_below (Rf_ HO325 BK340) hb); replace HO328 := Aside0.mk (Kd.R_below (Rf_ HO328 BK340) hb); replace HO335 := Aside0.mk (Kd.R_below (Rf_ HO335 BK340) hb); replace HO338 := Aside0.mk (Kd.R_below (Rf_ HO338 BK340) hb); replace BK319 := Aside0.mk (blk_below (Bz_ BK319) hb); replace BK320 := Aside0.mk (blk_below (Bz_ BK320) hb); replace BK329 := Aside0.mk (blk_below (Bz_ BK329) hb); replace BK340 := Aside0.mk (blk_below (g := gb340) (o := .cells #[.int .i64 t332, .slice Ao30 t333.length co30, .slice Ao32 t336.length co32] 27 (0, 0)) (by (with_reducible repeat (first | refine blk_drewN ?_ _ | refine blk_drew ?_ | refine blk_alloc ?_ _)); refine blk_put (cs := #[.int .i64 t332, .slice Ao30 t333.length co30, .slice none 0 0]) ?_ 2 _ rfl; (with_reducible repeat (first | refine blk_drewN ?_ _ | refine blk_drew ?_ | refine blk_alloc ?_ _)); refine blk_put (cs := #[.int .i64 t332, .slice none 0 0, .slice none 0 0]) ?_ 1 _ rfl; (with_reducible repeat (first | refine blk_drewN ?_ _ | refine blk_drew ?_ | refine blk_alloc ?_ _)); refine blk_put (cs := #[.int .i64 0, .slice none 0 0, .slice none 0 0]) ?_ 0 _ rfl; (with_reducible repeat (first | refine blk_drewN ?_ _ | refine blk_drew ?_ | refine blk_alloc ?_ _)); exact BK340.out) hb); replace HB := Ls_ HB hb; (try clear hb); (try clear hb2); (try clear hk); (try clear hi)) | ((with_reducible refine gate_dst (N := 8) rfl ?_); refine box_ 8 47 #[.int .i64 0, .int .i64 0, .int .i64 0] ?_; intro gb346 hg w48 hbox hb; have BK346 := Aside0.mk (hbox); have GW346 := G_ hg HB; have GE346 := G_ hg HB; have NB319_346 := Nl_ hg BK319; have NB346_319 := Ng_ hg BK319; have NB320_346 := Nl_ hg BK320; have NB346_320 := Ng_ hg BK320; have NB329_346 := Nl_ hg BK329; have NB346_329 := Ng_ hg BK329; have NB340_346 := Nl_ hg BK340; have NB346_340 := Ng_ hg BK340; replace HO325 := Rb_ HO325 hb; replace HO328 := Aside0.mk (Kd.R_below (Kd.R_elderB (R_ HO328) gb346 (Nat.le_of_eq hg.symm)) hb); replace HO335 := Rb_ HO335 hb; replace HO338 := Aside0.mk (Kd.R_below (Kd.R_elderB (R_ HO338) gb346 (Nat.le_of_eq hg.symm)) hb); replace BK319 := Bb_ BK319 hb; replace BK320 := Bb_ BK320 hb; replace BK329 := Bb_ BK329 hb; replace BK340 := Bb_ BK340 hb; replace HB := Ls_ HB hb; clear hb hbox hg; have hnb49 := NB346_319.out; have hnc49 := NB319_346.out; have hnb50 := NB346_320.out; have hnc50 := NB320_346.out; have hnb51 := NB346_329.out; have hnc51 := NB329_346.out; have hnb52 := NB346_340.out; have hnc52 := NB340_346.out; have hcz53_0 : w48.cell? ⟨gb346, 0, none⟩ = some (.int .i64 0) := (blk_cell BK346.out 0).trans rfl; have hcz53_1 : w48.cell? ⟨gb346, 1, none⟩ = some (.int .i64 0) := (blk_cell BK346.out 1).trans rfl; have hcz53_2 : w48.cell? ⟨gb346, 2, none⟩ = some (.int .i64 0) := (blk_cell BK346.out 2).trans rfl; have hfz53_0 := blk_frozen BK346.out 0; have hfz53_1 := blk_frozen BK346.out 1; have hfz53_2 := blk_frozen BK346.out 2; have hcz54_0 : w48.cell? ⟨gb340, 0, none⟩ = some (.int .i64 t332) := (blk_cell BK340.out 0).trans rfl; have hcz54_1 : w48.cell? ⟨gb340, 1, none⟩ = some (.slice Ao30 t333.length co30) := (blk_cell BK340.out 1).trans rfl; have hcz54_2 : w48.cell? ⟨gb340, 2, none⟩ = some (.slice Ao32 t336.length co32) := (blk_cell BK340.out 2).trans rfl; have hfz54_0 := blk_frozen BK340.out 0; have hfz54_1 := blk_frozen BK340.out 1; have hfz54_2 := blk_frozen BK340.out 2; have hcz55_0 : w48.cell? ⟨gb320, 0, none⟩ = some (.int .i64 a1_0) := (blk_cell BK320.out 0).trans rfl; have hcz55_1 : w48.cell? ⟨gb320, 1, none⟩ = some (.int .i64 a1_1) := (blk_cell BK320.out 1).trans rfl; have hcz55_2 : w48.cell? ⟨gb320, 2, none⟩ = some (.int .i64 a1_2) := (blk_cell BK320.out 2).trans rfl; have hcz55_3 : w48.cell? ⟨gb320, 3, none⟩ = some (.int .i64 a1_3) := (blk_cell BK320.out 3).trans rfl; have hcz55_4 : w48.cell? ⟨gb320, 4, none⟩ = some (.int .i64 a1_4) := (blk_cell BK320.out 4).trans rfl; have hcz55_5 : w48.cell? ⟨gb320, 5, none⟩ = some (.int .i64 a1_5) := (blk_cell BK320.out 5).trans rfl; have hcz55_6 : w48.cell? ⟨gb320, 6, none⟩ = some (.bool a1_6) := (blk_cell BK320.out 6).trans rfl; have hfz55_0 := blk_frozen BK320.out 0; have hfz55_1 := blk_frozen BK320.out 1; have hfz55_2 := blk_frozen BK320.out 2; have hfz55_3 := blk_frozen BK320.out 3; have hfz55_4 := blk_frozen BK320.out 4; have hfz55_5 := blk_frozen BK320.out 5; have hfz55_6 := blk_frozen BK320.out 6) | ((with_reducible refine gate_callee (f := 23) rfl ?_); refine goesL_ (some 63) rfl rfl Try.func23 (by kernel_rfl) rfl #[.agg #[.int .i64 t332, .slice Ao30 t333.length co30, .slice Ao32 t336.length co32], .int .i64 a1_2] rfl M_ ?_; (with_reducible refine (vtimer_Stop.calls t332 _ _ t333 _ _ t336 a1_2 t347 t348 t351 t354 _ ?side1 ?side2 ?side3 ?side4 A36.out).mono ?_); (case side1 => exact Rr_ HO335 BK346); (case side2 => exact (Kd.R_reads' HO335.out).2.1); (case side3 => refine (Kd.R_reads' (e := 47) (base := w.heap.size) (ok := fun k_ => (some k_ ≠ (.slice Ao22 t326.length co22 : Value).ownBlock ∧ k_ ≠ gb346)) (n := t336.length) (c := co32) ?_).2.2; exact (by (with_reducible repeat (first | apply Kd.R_alloc | apply Kd.R_drewN | apply Kd.R_drew)); exact (Kd.R_mono (Kd.R_far (p := ⟨gb346, 2, none⟩) (Kd.R_far (p := ⟨gb346, 1, none⟩) (Kd.R_far (p := ⟨gb346, 0, none⟩) (Kd.R_mono HO338.out (fun k_ hk => (⟨hk, hk.2⟩ : _ ∧ k_ ≠ gb346))) (fun _ hk => hk.2) (.int .i64 t341)) (fun _ hk => hk.2) (.int .i64 t342)) (fun _ hk => hk.2) (.int .i64 t343)) (fun _ h_ => h_.1)))); (case side4 => exact (Kd.R_reads' HO338.out).2.1); rintro e w56 ⟨v349, v352, rfl, ho0, ho1, hb⟩; refine ⟨_, rfl, ?_⟩; have HO350 := Aside0.mk (Kd.R_lower (Kd.R_new' (Kd.R_new' ho0 (Kd.R_lt (Rf_ HO325 BK346))) (Kd.R_lt (Rf_ HO335 BK346))) (below_size L_)); have HO353 := Aside0.mk (Kd.R_lower (Kd.R_newB (Kd.R_new' (Kd.R_new' ho1 (Kd.R_lt (by (with_reducible repeat (first | apply Kd.R_alloc | apply Kd.R_drewN | apply Kd.R_drew)); exact (Kd.R_mono (Kd.R_far (p := ⟨gb346, 2, none⟩) (Kd.R_far (p := ⟨gb346, 1, none⟩) (Kd.R_far (p := ⟨gb346, 0, none⟩) (Kd.R_mono HO328.out (fun k_ hk => (⟨hk, hk.2⟩ : _ ∧ k_ ≠ gb346))) (fun _ hk => hk.2) (.int .i64 t341)) (fun _ hk => hk.2) (.int .i64 t342)) (fun _ hk => hk.2) (.int .i64 t343)) (fun _ h_ => h_.1))))) (Kd.R_lt (by (with_reducible repeat (first | apply Kd.R_alloc | apply Kd.R_drewN | apply Kd.R_drew)); exact (Kd.R_mono (Kd.R_far (p := ⟨gb346, 2, none⟩) (Kd.R_far (p := ⟨gb346, 1, none⟩) (Kd.R_far (p := ⟨gb346, 0, none⟩) (Kd.R_mono HO338.out (fun k_ hk => (⟨hk, hk.2⟩ : _ ∧ k_ ≠ gb346))) (fun _ hk => hk.2) (.int .i64 t341)) (fun _ hk => hk.2) (.int .i64 t342)) (fun _ hk => hk.2) (.int .i64 t343)) (fun _ h_ => h_.1))))) (g := gb346) (o := .cells #[.int .i64 t341, .int .i64 t342, .int .i64 t343] 47 (0, 0)) (by (with_reducible repeat (first | refine blk_drewN ?_ _ | refine blk_drew ?_ | refine blk_alloc ?_ _)); refine blk_put (cs := #[.int .i64 t341, .int .i64 t342, .int .i64 0]) ?_ 2 _ rfl; (with_reducible repeat (first | refine blk_drewN ?_ _ | refine blk_drew ?_ | refine blk_alloc ?_ _)); refine blk_put (cs := #[.int .i64 t341, .int .i64 0, .int .i64 0]) ?_ 1 _ rfl; (with_reducible repeat (first | refine blk_drewN ?_ _ | refine blk_drew ?_ | refine blk_alloc ?_ _)); refine blk_put (cs := #[.int .i64 0, .int .i64 0, .int .i64 0]) ?_ 0 _ rfl; (with_reducible repeat (first | refine blk_drewN ?_ _ | refine blk_drew ?_ | refine blk_alloc ?_ _)); exact BK346.out)) (below_size L_)); replace HO325 := Aside0.mk (Kd.R_elder' (Rf_ HO325 BK346) (Kd.R_base ho0) hb); replace HO328 := Aside0.mk (Kd.R_elder' (by (with_reducible repeat (first | apply Kd.R_alloc | apply Kd.R_drewN | apply Kd.R_drew)); exact (Kd.R_mono (Kd.R_far (p := ⟨gb346, 2, none⟩) (Kd.R_far (p := ⟨gb346, 1, none⟩) (Kd.R_far (p := ⟨gb346, 0, none⟩) (Kd.R_mono HO328.out (fun k_ hk => (⟨hk, hk.2⟩ : _ ∧ k_ ≠ gb346))) (fun _ hk => hk.2) (.int .i64 t341)) (fun _ hk => hk.2) (.int .i64 t342)) (fun _ hk => hk.2) (.int .i64 t343)) (fun _ h_ => h_.1))) (Kd.R_base ho1) hb); replace HO335 := Aside0.mk (Kd.R_elder' (Rf_ HO335 BK346) (Kd.R_base ho0) hb); replace HO338 := Aside0.mk (Kd.R_elder' (by (with_reducible repeat (first | apply Kd.R_alloc | apply Kd.R_drewN | apply Kd.R_drew)); exact (Kd.R_mono (Kd.R_far (p := ⟨gb346, 2, none⟩) (Kd.R_far (p := ⟨gb346, 1, none⟩) (Kd.R_far (p := ⟨gb346, 0, none⟩) (Kd.R_mono HO338.out (fun k_ hk => (⟨hk, hk.2⟩ : _ ∧ k_ ≠ gb346))) (fun _ hk => hk.2) (.int .i64 t341)) (fun _ hk => hk.2) (.int .i64 t342)) (fun _ hk => hk.2) (.int .i64 t343)) (fun _ h_ => h_.1))) (Kd.R_base ho1) hb); replace BK319 := Aside0.mk (blk_below (Bz_ BK319) hb); replace BK320 := Aside0.mk (blk_below (Bz_ BK320) hb); replace BK329 := Aside0.mk (blk_below (Bz_ BK329) hb); replace BK340 := Aside0.mk (blk_below (Bz_ BK340) hb); replace BK346 := Aside0.mk (blk_below (g := gb346) (o := .cells #[.int .i64 t341, .int .i64 t342, .int .i64 t343] 47 (0, 0)) (by (with_reducible repeat (first | refine blk_drewN ?_ _ | refine blk_drew ?_ | refine blk_alloc ?_ _)); refine blk_put (cs := #[.int .i64 t341, .int .i64 t342, .int .i64 0]) ?_ 2 _ rfl; (with_reducible repeat (first | refine blk_drewN ?_ _ | refine blk_drew ?_ | refine blk_alloc ?_ _)); refine blk_put (cs := #[.int .i64 t341, .int .i64 0, .int .i64 0]) ?_ 1 _ rfl; (with_reducible repeat (first | refine blk_drewN ?_ _ | refine blk_drew ?_ | refine blk_alloc ?_ _)); refine blk_put (cs := #[.int .i64 0, .int .i64 0, .int .i64 0]) ?_ 0 _ rfl; (with_reducible repeat (first | refine blk_drewN ?_ _ | refine blk_drew ?_ | refine blk_alloc ?_ _)); exact BK346.out) hb); replace HB := Ls_ HB hb; (try clear hb); (try clear hb2); (try clear hk); (try clear hi); (try clear ho0); (try clear ho1)) | ((with_reducible refine gate_dst (N := 11) rfl ?_); refine box_ 11 27 #[.int .i64 0, .slice none 0 0, .slice none 0 0] ?_; intro gb355 hg w57 hbox hb; have BK355 := Aside0.mk (hbox); have GW355 := G_ hg HB; have GE355 := G_ hg HB; have NB319_355 := Nl_ hg BK319; have NB355_319 := Ng_ hg BK319; have NB320_355 := Nl_ hg BK320; have NB355_320 := Ng_ hg BK320; have NB329_355 := Nl_ hg BK329; have NB355_329 := Ng_ hg BK329; have NB340_355 := Nl_ hg BK340; have NB355_340 := Ng_ hg BK340; have NB346_355 := Nl_ hg BK346; have NB355_346 := Ng_ hg BK346; replace HO325 := Rb_ HO325 hb; replace HO328 := Rb_ HO328 hb; replace HO335 := Rb_ HO335 hb; replace HO338 := Rb_ HO338 hb; replace HO350 := Rb_ HO350 hb; replace HO353 := Rb_ HO353 hb; replace BK319 := Bb_ BK319 hb; replace BK320 := Bb_ BK320 hb; replace BK329 := Bb_ BK329 hb; replace BK340 := Bb_ BK340 hb; replace BK346 := Bb_ BK346 hb; replace HB := Ls_ HB hb; clear hb hbox hg; have hnb58 := NB355_319.out; have hnc58 := NB319_355.out; have hnb59 := NB355_320.out; have hnc59 := NB320_355.out; have hnb60 := NB355_329.out; have hnc60 := NB329_355.out; have hnb61 := NB355_340.out; have hnc61 := NB340_355.out; have hnb62 := NB355_346.out; have hnc62 := NB346_355.out; have hcz63_0 : w57.cell? ⟨gb355, 0, none⟩ = some (.int .i64 0) := (blk_cell BK355.out 0).trans rfl; have hcz63_1 : w57.cell? ⟨gb355, 1, none⟩ = some (.slice none 0 0) := (blk_cell BK355.out 1).trans rfl; have hcz63_2 : w57.cell? ⟨gb355, 2, none⟩ = some (.slice none 0 0) := (blk_cell BK355.out 2).trans rfl; have hfz63_0 := blk_frozen BK355.out 0; have hfz63_1 := blk_frozen BK355.out 1; have hfz63_2 := blk_frozen BK355.out 2; obtain ⟨Ao64, co64, eo64⟩ := Kd.R_slice HO350.out; subst eo64; obtain ⟨Ao65, co65, eo65⟩ := Kd.R_slice HO353.out; subst eo65; have hcz66_0 : w57.cell? ⟨gb320, 0, none⟩ = some (.int .i64 a1_0) := (blk_cell BK320.out 0).trans rfl; have hcz66_1 : w57.cell? ⟨gb320, 1, none⟩ = some (.int .i64 a1_1) := (blk_cell BK320.out 1).trans rfl; have hcz66_2 : w57.cell? ⟨gb320, 2, none⟩ = some (.int .i64 a1_2) := (blk_cell BK320.out 2).trans rfl; have hcz66_3 : w57.cell? ⟨gb320, 3, none⟩ = some (.int .i64 a1_3) := (blk_cell BK320.out 3).trans rfl; have hcz66_4 : w57.cell? ⟨gb320, 4, none⟩ = some (.int .i64 a1_4) := (blk_cell BK320.out 4).trans rfl; have hcz66_5 : w57.cell? ⟨gb320, 5, none⟩ = some (.int .i64 a1_5) := (blk_cell BK320.out 5).trans rfl; have hcz66_6 : w57.cell? ⟨gb320, 6, none⟩ = some (.bool a1_6) := (blk_cell BK320.out 6).trans rfl; have hfz66_0 := blk_frozen BK320.out 0; have hfz66_1 := blk_frozen BK320.out 1; have hfz66_2 := blk_frozen BK320.out 2; have hfz66_3 := blk_frozen BK320.out 3; have hfz66_4 := blk_frozen BK320.out 4; have hfz66_5 := blk_frozen BK320.out 5; have hfz66_6 := blk_frozen BK320.out 6) | ((with_reducible refine gate_callee (f := 14) rfl ?_); refine goesL_ (some 71) rfl rfl Try.func14 (by kernel_rfl) rfl #[.agg #[.int .i64 t347, .slice Ao64 t348.length co64, .slice Ao65 t351.length co65], .int .i64 a1_2] rfl M_ ?_; (with_reducible refine (vtimer_Get.calls k t347 _ _ t348 _ _ t351 a1_2 t356 t357 t358 t359 t360 _ ?side1 ?side2 ?side3 ?side4 A37.out).mono ?_); (case side1 => refine (Kd.R_reads' (e := 88) (base := w.heap.size) (ok := fun k_ => ((True ∧ some k_ ≠ (.slice Ao21 t323.length co21 : Value).ownBlock) ∧ some k_ ≠ (.slice Ao30 t333.length co30 : Value).ownBlock)) (n := t348.length) (c := co64) ?_).2.2; exact (Rf_ HO350 BK355)); (case side2 => exact (Kd.R_reads' HO350.out).2.1); (case side3 => refine (Kd.R_reads' (e := 47) (base := w.heap.size) (ok := fun k_ => (((True ∧ some k_ ≠ (.slice Ao22 t326.length co22 : Value).ownBlock) ∧ some k_ ≠ (.slice Ao32 t336.length co32 : Value).ownBlock) ∧ k_ ≠ gb346)) (n := t351.length) (c := co65) ?_).2.2; exact (Rf_ HO353 BK355)); (case side4 => exact (Kd.R_reads' HO353.out).2.1); rintro e w67 ⟨rfl, hb⟩; refine ⟨_, rfl, ?_⟩; replace HO325 := Aside0.mk (Kd.R_below (Rf_ HO325 BK355) hb); replace HO328 := Aside0.mk (Kd.R_below (Rf_ HO328 BK355) hb); replace HO335 := Aside0.mk (Kd.R_below (Rf_ HO335 BK355) hb); replace HO338 := Aside0.mk (Kd.R_below (Rf_ HO338 BK355) hb); replace HO350 := Aside0.mk (Kd.R_below (Rf_ HO350 BK355) hb); replace HO353 := Aside0.mk (Kd.R_below (Rf_ HO353 BK355) hb); replace BK319 := Aside0.mk (blk_below (Bz_ BK319) hb); replace BK320 := Aside0.mk (blk_below (Bz_ BK320) hb); replace BK329 := Aside0.mk (blk_below (Bz_ BK329) hb); replace BK340 := Aside0.mk (blk_below (Bz_ BK340) hb); replace BK346 := Aside0.mk (blk_below (Bz_ BK346) hb); replace BK355 := Aside0.mk (blk_below (g := gb355) (o := .cells #[.int .i64 t347, .slice Ao64 t348.length co64, .slice Ao65 t351.length co65] 27 (0, 0)) (by (with_reducible repeat (first | refine blk_drewN ?_ _ | refine blk_drew ?_ | refine blk_alloc ?_ _)); refine blk_put (cs := #[.int .i64 t347, .slice Ao64 t348.length co64, .slice none 0 0]) ?_ 2 _ rfl; (with_reducible repeat (first | refine blk_drewN ?_ _ | refine blk_drew ?_ | refine blk_alloc ?_ _)); refine blk_put (cs := #[.int .i64 t347, .slice none 0 0, .slice none 0 0]) ?_ 1 _ rfl; (with_reducible repeat (first | refine blk_drewN ?_ _ | refine blk_drew ?_ | refine blk_alloc ?_ _)); refine blk_put (cs := #[.int .i64 0, .slice none 0 0, .slice none 0 0]) ?_ 0 _ rfl; (with_reducible repeat (first | refine blk_drewN ?_ _ | refine blk_drew ?_ | refine blk_alloc ?_ _)); exact BK355.out) hb); replace HB := Ls_ HB hb; (try clear hb); (try clear hb2); (try clear hk); (try clear hi)) | ((with_reducible refine gate_dst (N := 13) rfl ?_); refine box_ 13 47 #[.int .i64 0, .int .i64 0, .int .i64 0] ?_; intro gb361 hg w68 hbox hb; have BK361 := Aside0.mk (hbox); have GW361 := G_ hg HB; have GE361 := G_ hg HB; have NB319_361 := Nl_ hg BK319; have NB361_319 := Ng_ hg BK319; have NB320_361 := Nl_ hg BK320; have NB361_320 := Ng_ hg BK320; have NB329_361 := Nl_ hg BK329; have NB361_329 := Ng_ hg BK329; have NB340_361 := Nl_ hg BK340; have NB361_340 := Ng_ hg BK340; have NB346_361 := Nl_ hg BK346; have NB361_346 := Ng_ hg BK346; have NB355_361 := Nl_ hg BK355; have NB361_355 := Ng_ hg BK355; replace HO325 := Rb_ HO325 hb; replace HO328 := Aside0.mk (Kd.R_below (Kd.R_elderB (R_ HO328) gb361 (Nat.le_of_eq hg.symm)) hb); replace HO335 := Rb_ HO335 hb; replace HO338 := Aside0.mk (Kd.R_below (Kd.R_elderB (R_ HO338) gb361 (Nat.le_of_eq hg.symm)) hb); replace HO350 := Rb_ HO350 hb; replace HO353 := Aside0.mk (Kd.R_below (Kd.R_elderB (R_ HO353) gb361 (Nat.le_of_eq hg.symm)) hb); replace BK319 := Bb_ BK319 hb; replace BK320 := Bb_ BK320 hb; replace BK329 := Bb_ BK329 hb; replace BK340 := Bb_ BK340 hb; replace BK346 := Bb_ BK346 hb; replace BK355 := Bb_ BK355 hb; replace HB := Ls_ HB hb; clear hb hbox hg; have hnb69 := NB361_319.out; have hnc69 := NB319_361.out; have hnb70 := NB361_320.out; have hnc70 := NB320_361.out; have hnb71 := NB361_329.out; have hnc71 := NB329_361.out; have hnb72 := NB361_340.out; have hnc72 := NB340_361.out; have hnb73 := NB361_346.out; have hnc73 := NB346_361.out; have hnb74 := NB361_355.out; have hnc74 := NB355_361.out; have hcz75_0 : w68.cell? ⟨gb361, 0, none⟩ = some (.int .i64 0) := (blk_cell BK361.out 0).trans rfl; have hcz75_1 : w68.cell? ⟨gb361, 1, none⟩ = some (.int .i64 0) := (blk_cell BK361.out 1).trans rfl; have hcz75_2 : w68.cell? ⟨gb361, 2, none⟩ = some (.int .i64 0) := (blk_cell BK361.out 2).trans rfl; have hfz75_0 := blk_frozen BK361.out 0; have hfz75_1 := blk_frozen BK361.out 1; have hfz75_2 := blk_frozen BK361.out 2; have hcz76_0 : w68.cell? ⟨gb355, 0, none⟩ = some (.int .i64 t347) := (blk_cell BK355.out 0).trans rfl; have hcz76_1 : w68.cell? ⟨gb355, 1, none⟩ = some (.slice Ao64 t348.length co64) := (blk_cell BK355.out 1).trans rfl; have hcz76_2 : w68.cell? ⟨gb355, 2, none⟩ = some (.slice Ao65 t351.length co65) := (blk_cell BK355.out 2).trans rfl; have hfz76_0 := blk_frozen BK355.out 0; have hfz76_1 := blk_frozen BK355.out 1; have hfz76_2 := blk_frozen BK355.out 2) | ((with_reducible refine gate_callee (f := 10) rfl ?_); refine goesL_ (some 77) rfl rfl Try.func10 (by kernel_rfl) rfl #[.agg #[.int .i64 t347, .slice Ao64 t348.length co64, .slice Ao65 t351.length co65], .int .i64 1125899906842624] rfl M_ ?_; (with_reducible refine (vtimer_Pass.calls t347 _ _ t348 _ _ t351 1125899906842624 t362 t363 t366 t369 t372 _ ?side1 ?side2 ?side3 ?side4 A38.out).mono ?_); (case side1 => refine (Kd.R_reads' (e := 88) (base := w.heap.size) (ok := fun k_ => ((True ∧ some k_ ≠ (.slice Ao21 t323.length co21 : Value).ownBlock) ∧ some k_ ≠ (.slice Ao30 t333.length co30 : Value).ownBlock)) (n := t348.length) (c := co64) ?_).2.2; exact (Rf_ HO350 BK361)); (case side2 => exact (Kd.R_reads' HO350.out).2.1); (case side3 => refine (Kd.R_reads' (e := 47) (base := w.heap.size) (ok := fun k_ => ((((True ∧ some k_ ≠ (.slice Ao22 t326.length co22 : Value).ownBlock) ∧ some k_ ≠ (.slice Ao32 t336.length co32 : Value).ownBlock) ∧ k_ ≠ gb346) ∧ k_ ≠ gb361)) (n := t351.length) (c := co65) ?_).2.2; exact (by (with_reducible repeat (first | apply Kd.R_alloc | apply Kd.R_drewN | apply Kd.R_drew)); exact (Kd.R_mono (Kd.R_far (p := ⟨gb361, 2, none⟩) (Kd.R_far (p := ⟨gb361, 1, none⟩) (Kd.R_far (p := ⟨gb361, 0, none⟩) (Kd.R_mono HO353.out (fun k_ hk => (⟨hk, hk.2⟩ : _ ∧ k_ ≠ gb361))) (fun _ hk => hk.2) (.int .i64 t356)) (fun _ hk => hk.2) (.int .i64 t357)) (fun _ hk => hk.2) (.int .i64 t358)) (fun _ h_ => h_.1)))); (case side4 => exact (Kd.R_reads' HO353.out).2.1); rintro e w77 ⟨v364, v367, v370, rfl, ho0, ho1, ho2, hb⟩; refine ⟨_, rfl, ?_⟩; have HO365 := Aside0.mk (Kd.R_lower (Kd.R_new' (Kd.R_new' (Kd.R_new' ho0 (Kd.R_lt (Rf_ HO325 BK361))) (Kd.R_lt (Rf_ HO335 BK361))) (Kd.R_lt (Rf_ HO350 BK361))) (below_size L_)); have HO368 := Aside0.mk (Kd.R_lower (Kd.R_newB (Kd.R_newB (Kd.R_new' (Kd.R_new' (Kd.R_new' ho1 (Kd.R_lt (by (with_reducible repeat (first | apply Kd.R_alloc | apply Kd.R_drewN | apply Kd.R_drew)); exact (Kd.R_mono (Kd.R_far (p := ⟨gb361, 2, none⟩) (Kd.R_far (p := ⟨gb361, 1, none⟩) (Kd.R_far (p := ⟨gb361, 0, none⟩) (Kd.R_mono HO328.out (fun k_ hk => (⟨hk, hk.2⟩ : _ ∧ k_ ≠ gb361))) (fun _ hk => hk.2) (.int .i64 t356)) (fun _ hk => hk.2) (.int .i64 t357)) (fun _ hk => hk.2) (.int .i64 t358)) (fun _ h_ => h_.1))))) (Kd.R_lt (by (with_reducible repeat (first | apply Kd.R_alloc | apply Kd.R_drewN | apply Kd.R_drew)); exact (Kd.R_mono (Kd.R_far (p := ⟨gb361, 2, none⟩) (Kd.R_far (p := ⟨gb361, 1, none⟩) (Kd.R_far (p := ⟨gb361, 0, none⟩) (Kd.R_mono HO338.out (fun k_ hk => (⟨hk, hk.2⟩ : _ ∧ k_ ≠ gb361))) (fun _ hk => hk.2) (.int .i64 t356)) (fun _ hk => hk.2) (.int .i64 t357)) (fun _ hk => hk.2) (.int .i64 t358)) (fun _ h_ => h_.1))))) (Kd.R_lt (by (with_reducible repeat (first | apply Kd.R_alloc | apply Kd.R_drewN | apply Kd.R_drew)); exact (Kd.R_mono (Kd.R_far (p := ⟨gb361, 2, none⟩) (Kd.R_far (p := ⟨gb361, 1, none⟩) (Kd.R_far (p := ⟨gb361, 0, none⟩) (Kd.R_mono HO353.out (fun k_ hk => (⟨hk, hk.2⟩ : _ ∧ k_ ≠ gb361))) (fun _ hk => hk.2) (.int .i64 t356)) (fun _ hk => hk.2) (.int .i64 t357)) (fun _ hk => hk.2) (.int .i64 t358)) (fun _ h_ => h_.1))))) (g := gb346) (o := .cells #[.int .i64 t341, .int .i64 t342, .int .i64 t343] 47 (0, 0)) (Bz_ BK346)) (g := gb361) (o := .cells #[.int .i64 t356, .int .i64 t357, .int .i64 t358] 47 (0, 0)) (by (with_reducible repeat (first | refine blk_drewN ?_ _ | refine blk_drew ?_ | refine blk_alloc ?_ _)); refine blk_put (cs := #[.int .i64 t356, .int .i64 t357, .int .i64 0]) ?_ 2 _ rfl; (with_reducible repeat (first | refine blk_drewN ?_ _ | refine blk_drew ?_ | refine blk_alloc ?_ _)); refine blk_put (cs := #[.int .i64 t356, .int .i64 0, .int .i64 0]) ?_ 1 _ rfl; (with_reducible repeat (first | refine blk_drewN ?_ _ | refine blk_drew ?_ | refine blk_alloc ?_ _)); refine blk_put (cs := #[.int .i64 0, .int .i64 0, .int .i64 0]) ?_ 0 _ rfl; (with_reducible repeat (first | refine blk_drewN ?_ _ | refine blk_drew ?_ | refine blk_alloc ?_ _)); exact BK361.out)) (below_size L_)); have HO371 := Aside0.mk (Kd.R_lower ho2 (below_size L_)); replace HO325 := Aside0.mk (Kd.R_elder' (Rf_ HO325 BK361) (Kd.R_base ho0) hb); replace HO328 := Aside0.mk (Kd.R_elder' (by (with_reducible repeat (first | apply Kd.R_alloc | apply Kd.R_drewN | apply Kd.R_drew)); exact (Kd.R_mono (Kd.R_far (p := ⟨gb361, 2, none⟩) (Kd.R_far (p := ⟨gb361, 1, none⟩) (Kd.R_far (p := ⟨gb361, 0, none⟩) (Kd.R_mono HO328.out (fun k_ hk => (⟨hk, hk.2⟩ : _ ∧ k_ ≠ gb361))) (fun _ hk => hk.2) (.int .i64 t356)) (fun _ hk => hk.2) (.int .i64 t357)) (fun _ hk => hk.2) (.int .i64 t358)) (fun _ h_ => h_.1))) (Kd.R_base ho1) hb); replace HO335 := Aside0.mk (Kd.R_elder' (Rf_ HO335 BK361) (Kd.R_base ho0) hb); replace HO338 := Aside0.mk (Kd.R_elder' (by (with_reducible repeat (first | apply Kd.R_alloc | apply Kd.R_drewN | apply Kd.R_drew)); exact (Kd.R_mono (Kd.R_far (p := ⟨gb361, 2, none⟩) (Kd.R_far (p := ⟨gb361, 1, none⟩) (Kd.R_far (p := ⟨gb361, 0, none⟩) (Kd.R_mono HO338.out (fun k_ hk => (⟨hk, hk.2⟩ : _ ∧ k_ ≠ gb361))) (fun _ hk => hk.2) (.int .i64 t356)) (fun _ hk => hk.2) (.int .i64 t357)) (fun _ hk => hk.2) (.int .i64 t358)) (fun _ h_ => h_.1))) (Kd.R_base ho1) hb); replace HO350 := Aside0.mk (Kd.R_elder' (Rf_ HO350 BK361) (Kd.R_base ho0) hb); replace HO353 := Aside0.mk (Kd.R_elder' (by (with_reducible repeat (first | apply Kd.R_alloc | apply Kd.R_drewN | apply Kd.R_drew)); exact (Kd.R_mono (Kd.R_far (p := ⟨gb361, 2, none⟩) (Kd.R_far (p := ⟨gb361, 1, none⟩) (Kd.R_far (p := ⟨gb361, 0, none⟩) (Kd.R_mono HO353.out (fun k_ hk => (⟨hk, hk.2⟩ : _ ∧ k_ ≠ gb361))) (fun _ hk => hk.2) (.int .i64 t356)) (fun _ hk => hk.2) (.int .i64 t357)) (fun _ hk => hk.2) (.int .i64 t358)) (fun _ h_ => h_.1))) (Kd.R_base ho1) hb); replace BK319 := Aside0.mk (blk_below (Bz_ BK319) hb); replace BK320 := Aside0.mk (blk_below (Bz_ BK320) hb); replace BK329 := Aside0.mk (blk_below (Bz_ BK329) hb); replace BK340 := Aside0.mk (blk_below (Bz_ BK340) hb); replace BK346 := Aside0.mk (blk_below (Bz_ BK346) hb); replace BK355 := Aside0.mk (blk_below (Bz_ BK355) hb); replace BK361 := Aside0.mk (blk_below (g := gb361) (o := .cells #[.int .i64 t356, .int .i64 t357, .int .i64 t358] 47 (0, 0)) (by (with_reducible repeat (first | refine blk_drewN ?_ _ | refine blk_drew ?_ | refine blk_alloc ?_ _)); refine blk_put (cs := #[.int .i64 t356, .int .i64 t357, .int .i64 0]) ?_ 2 _ rfl; (with_reducible repeat (first | refine blk_drewN ?_ _ | refine blk_drew ?_ | refine blk_alloc ?_ _)); refine blk_put (cs := #[.int .i64 t356, .int .i64 0, .int .i64 0]) ?_ 1 _ rfl; (with_reducible repeat (first | refine blk_drewN ?_ _ | refine blk_drew ?_ | refine blk_alloc ?_ _)); refine blk_put (cs := #[.int .i64 0, .int .i64 0, .int .i64 0]) ?_ 0 _ rfl; (with_reducible repeat (first | refine blk_drewN ?_ _ | refine blk_drew ?_ | refine blk_alloc ?_ _)); exact BK361.out) hb); replace HB := Ls_ HB hb; (try clear hb); (try clear hb2); (try clear hk); (try clear hi); (try clear ho0); (try clear ho1); (try clear ho2)) | ((with_reducible refine gate_dst (N := 16) rfl ?_); refine box_ 16 27 #[.int .i64 0, .slice none 0 0, .slice none 0 0] ?_; intro gb373 hg w78 hbox hb; have BK373 := Aside0.mk (hbox); have GW373 := G_ hg HB; have GE373 := G_ hg HB; have NB319_373 := Nl_ hg BK319; have NB373_319 := Ng_ hg BK319; have NB320_373 := Nl_ hg BK320; have NB373_320 := Ng_ hg BK320; have NB329_373 := Nl_ hg BK329; have NB373_329 := Ng_ hg BK329; have NB340_373 := Nl_ hg BK340; have NB373_340 := Ng_ hg BK340; have NB346_373 := Nl_ hg BK346; have NB373_346 := Ng_ hg BK346; have NB355_373 := Nl_ hg BK355; have NB373_355 := Ng_ hg BK355; have NB361_373 := Nl_ hg BK361; have NB373_361 := Ng_ hg BK361; replace HO325 := Rb_ HO325 hb; replace HO328 := Rb_ HO328 hb; replace HO335 := Rb_ HO335 hb; replace HO338 := Rb_ HO338 hb; replace HO350 := Rb_ HO350 hb; replace HO353 := Rb_ HO353 hb; replace HO365 := Rb_ HO365 hb; replace HO368 := Rb_ HO368 hb; replace HO371 := Rb_ HO371 hb; replace BK319 := Bb_ BK319 hb; replace BK320 := Bb_ BK320 hb; replace BK329 := Bb_ BK329 hb; replace BK340 := Bb_ BK340 hb; replace BK346 := Bb_ BK346 hb; replace BK355 := Bb_ BK355 hb; replace BK361 := Bb_ BK361 hb; replace HB := Ls_ HB hb; clear hb hbox hg; have hnb79 := NB373_319.out; have hnc79 := NB319_373.out; have hnb80 := NB373_320.out; have hnc80 := NB320_373.out; have hnb81 := NB373_329.out; have hnc81 := NB329_373.out; have hnb82 := NB373_340.out; have hnc82 := NB340_373.out; have hnb83 := NB373_346.out; have hnc83 := NB346_373.out; have hnb84 := NB373_355.out; have hnc84 := NB355_373.out; have hnb85 := NB373_361.out; have hnc85 := NB361_373.out; have hcz86_0 : w78.cell? ⟨gb373, 0, none⟩ = some (.int .i64 0) := (blk_cell BK373.out 0).trans rfl; have hcz86_1 : w78.cell? ⟨gb373, 1, none⟩ = some (.slice none 0 0) := (blk_cell BK373.out 1).trans rfl; have hcz86_2 : w78.cell? ⟨gb373, 2, none⟩ = some (.slice none 0 0) := (blk_cell BK373.out 2).trans rfl; have hfz86_0 := blk_frozen BK373.out 0; have hfz86_1 := blk_frozen BK373.out 1; have hfz86_2 := blk_frozen BK373.out 2; obtain ⟨Ao87, co87, eo87⟩ := Kd.R_slice HO365.out; subst eo87; obtain ⟨Ao88, co88, eo88⟩ := Kd.R_slice HO368.out; subst eo88))
        (try simp only [Act.put, List.setIfInBounds_toArray, List.set_cons_zero, List.set_cons_succ])
        go_cut [106] (fun v106 wc => ∃ (kq : Nat) (x106_38 : Bool), v106 = .bool x106_38 ∧ Aside0 (mainsheetlaw18_VtimerStops.j0 kq t369 x106_38 a1_0 a1_1 a1_2 a1_3 a1_4 a1_5 a1_6 t322 t323 t326 = some r) ∧ Aside0 (kq ≤ k) ∧ Aside0 (Kd.R k44 44 wc w.heap.size (fun _ => True) v370 t369) ∧ Aside0 (Kd.R k88 88 wc w.heap.size (fun k_ => some k_ ≠ ((.slice Ao30 t333.length co30) : Value).ownBlock ∧ some k_ ≠ ((.slice Ao64 t348.length co64) : Value).ownBlock ∧ some k_ ≠ ((.slice Ao87 t363.length co87) : Value).ownBlock) (.slice Ao21 t323.length co21) t323) ∧ Aside0 (Kd.R k47 47 wc w.heap.size (fun k_ => some k_ ≠ ((.slice Ao32 t336.length co32) : Value).ownBlock ∧ some k_ ≠ ((.slice Ao65 t351.length co65) : Value).ownBlock ∧ some k_ ≠ ((.slice Ao88 t366.length co88) : Value).ownBlock ∧ k_ ≠ gb346 ∧ k_ ≠ gb361) (.slice Ao22 t326.length co22) t326) ∧ Aside0 (Kd.R k88 88 wc w.heap.size (fun k_ => some k_ ≠ ((.slice Ao21 t323.length co21) : Value).ownBlock ∧ some k_ ≠ ((.slice Ao64 t348.length co64) : Value).ownBlock ∧ some k_ ≠ ((.slice Ao87 t363.length co87) : Value).ownBlock) (.slice Ao30 t333.length co30) t333) ∧ Aside0 (Kd.R k47 47 wc w.heap.size (fun k_ => some k_ ≠ ((.slice Ao22 t326.length co22) : Value).ownBlock ∧ some k_ ≠ ((.slice Ao65 t351.length co65) : Value).ownBlock ∧ some k_ ≠ ((.slice Ao88 t366.length co88) : Value).ownBlock ∧ k_ ≠ gb346 ∧ k_ ≠ gb361) (.slice Ao32 t336.length co32) t336) ∧ Aside0 (Kd.R k88 88 wc w.heap.size (fun k_ => some k_ ≠ ((.slice Ao21 t323.length co21) : Value).ownBlock ∧ some k_ ≠ ((.slice Ao30 t333.length co30) : Value).ownBlock ∧ some k_ ≠ ((.slice Ao87 t363.length co87) : Value).ownBlock) (.slice Ao64 t348.length co64) t348) ∧ Aside0 (Kd.R k47 47 wc w.heap.size (fun k_ => some k_ ≠ ((.slice Ao22 t326.length co22) : Value).ownBlock ∧ some k_ ≠ ((.slice Ao32 t336.length co32) : Value).ownBlock ∧ some k_ ≠ ((.slice Ao88 t366.length co88) : Value).ownBlock ∧ k_ ≠ gb346 ∧ k_ ≠ gb361) (.slice Ao65 t351.length co65) t351) ∧ Aside0 (Kd.R k88 88 wc w.heap.size (fun k_ => some k_ ≠ ((.slice Ao21 t323.length co21) : Value).ownBlock ∧ some k_ ≠ ((.slice Ao30 t333.length co30) : Value).ownBlock ∧ some k_ ≠ ((.slice Ao64 t348.length co64) : Value).ownBlock) (.slice Ao87 t363.length co87) t363) ∧ Aside0 (Kd.R k47 47 wc w.heap.size (fun k_ => some k_ ≠ ((.slice Ao22 t326.length co22) : Value).ownBlock ∧ some k_ ≠ ((.slice Ao32 t336.length co32) : Value).ownBlock ∧ some k_ ≠ ((.slice Ao65 t351.length co65) : Value).ownBlock ∧ k_ ≠ gb346 ∧ k_ ≠ gb361) (.slice Ao88 t366.length co88) t366) ∧ Aside0 (wc.heap[gb319]? = some (.cells #[.int .i64 a0_0, (.slice A0_1 l0_1.length c0_1), (.slice A0_2 l0_2.length c0_2)] 27 (0, 0))) ∧ Aside0 (wc.heap[gb320]? = some (.cells #[.int .i64 a1_0, .int .i64 a1_1, .int .i64 a1_2, .int .i64 a1_3, .int .i64 a1_4, .int .i64 a1_5, .bool a1_6] 58 (0, 0))) ∧ Aside0 (wc.heap[gb329]? = some (.cells #[.int .i64 t322, (.slice Ao21 t323.length co21), (.slice Ao22 t326.length co22)] 27 (0, 0))) ∧ Aside0 (wc.heap[gb340]? = some (.cells #[.int .i64 t332, (.slice Ao30 t333.length co30), (.slice Ao32 t336.length co32)] 27 (0, 0))) ∧ Aside0 (wc.heap[gb346]? = some (.cells #[.int .i64 t341, .int .i64 t342, .int .i64 t343] 47 (0, 0))) ∧ Aside0 (wc.heap[gb355]? = some (.cells #[.int .i64 t347, (.slice Ao64 t348.length co64), (.slice Ao65 t351.length co65)] 27 (0, 0))) ∧ Aside0 (wc.heap[gb361]? = some (.cells #[.int .i64 t356, .int .i64 t357, .int .i64 t358] 47 (0, 0))) ∧ Aside0 (wc.heap[gb373]? = some (.cells #[.int .i64 t362, (.slice Ao87 t363.length co87), (.slice Ao88 t366.length co88)] 27 (0, 0))) ∧ Aside0 (Below w.heap.size w wc))
        case first =>
         have H := HC39.out
         clear HC39
         by_cases c89 : t345 = true
         · subst c89
           have H1 : (if (!(t341 == a1_2) || (!(t342 == a1_3) || (!(t343 == a1_4)))) = true then (mainsheetlaw18_VtimerStops.j0 k t369 true a1_0 a1_1 a1_2 a1_3 a1_4 a1_5 a1_6 t322 t323 t326) else ((mainsheetlaw18_Op_time.f a1_0 a1_1 a1_2 a1_3 a1_4 a1_5 a1_6 t322 t323 t326).bind fun t374 => (if t344 = t374 then (if t354 = 0 then (if t360 = true then (mainsheetlaw18_VtimerStops.j0 k t369 true a1_0 a1_1 a1_2 a1_3 a1_4 a1_5 a1_6 t322 t323 t326) else (mainsheetlaw18_VtimerStops.j0 k t369 (t372 != 0) a1_0 a1_1 a1_2 a1_3 a1_4 a1_5 a1_6 t322 t323 t326)) else (mainsheetlaw18_VtimerStops.j0 k t369 true a1_0 a1_1 a1_2 a1_3 a1_4 a1_5 a1_6 t322 t323 t326)) else (mainsheetlaw18_VtimerStops.j0 k t369 true a1_0 a1_1 a1_2 a1_3 a1_4 a1_5 a1_6 t322 t323 t326)))) = some r := by rw [if_pos rfl] at H; exact H
           clear H
           have H := H1
           clear H1
           by_cases c90 : (!(t341 == a1_2) || (!(t342 == a1_3) || (!(t343 == a1_4)))) = true
           · rw [if_pos c90] at H
             have c90b0 : (!(t341 == a1_2) || (!(t342 == a1_3) || (!(t343 == a1_4)))) = true := c90
             clear c90
             (first | rw [c90b0] | (simp only [i64_w, i32_w]; rw [c90b0]) | skip)
             exact (mainsheetlaw18_VtimerStops.j0_true H hr_).elim
           · rw [if_neg c90] at H
             have c90b0 : (!(t341 == a1_2) || (!(t342 == a1_3) || (!(t343 == a1_4)))) = false := by simpa using c90
             clear c90
             (first | rw [c90b0] | (simp only [i64_w, i32_w]; rw [c90b0]) | skip)
             replace H := Option.bind_eq_some_iff.mp H
             obtain ⟨t374, A1060, H⟩ := H
             replace H : (if t344 = t374 then (if t354 = 0 then (if t360 = true then (mainsheetlaw18_VtimerStops.j0 k t369 true a1_0 a1_1 a1_2 a1_3 a1_4 a1_5 a1_6 t322 t323 t326) else (mainsheetlaw18_VtimerStops.j0 k t369 (t372 != 0) a1_0 a1_1 a1_2 a1_3 a1_4 a1_5 a1_6 t322 t323 t326)) else (mainsheetlaw18_VtimerStops.j0 k t369 true a1_0 a1_1 a1_2 a1_3 a1_4 a1_5 a1_6 t322 t323 t326)) else (mainsheetlaw18_VtimerStops.j0 k t369 true a1_0 a1_1 a1_2 a1_3 a1_4 a1_5 a1_6 t322 t323 t326)) = some r := H
             have A106 := Aside0.mk A1060
             clear A1060
             by_cases c107 : t344 = t374
             · rw [if_pos c107] at H
               have c107b0 : (t344 == t374) = true := beq_iff_eq.mpr c107
               have c107b1 : (t344 != t374) = false := bne_eq_false_iff_eq.mpr c107
               clear c107
               by_cases c108 : t354 = 0
               · rw [if_pos c108] at H
                 have c108b0 : (t354 == 0) = true := beq_iff_eq.mpr c108
                 have c108b1 : (t354 != 0) = false := bne_eq_false_iff_eq.mpr c108
                 clear c108
                 by_cases c109 : t360 = true
                 · subst c109
                   have H1 : (mainsheetlaw18_VtimerStops.j0 k t369 true a1_0 a1_1 a1_2 a1_3 a1_4 a1_5 a1_6 t322 t323 t326) = some r := by rw [if_pos rfl] at H; exact H
                   clear H
                   have H := H1
                   clear H1
                   exact (mainsheetlaw18_VtimerStops.j0_true H hr_).elim
                 · replace c109 := Bool.eq_false_iff.mpr c109
                   subst c109
                   have H1 : (mainsheetlaw18_VtimerStops.j0 k t369 (t372 != 0) a1_0 a1_1 a1_2 a1_3 a1_4 a1_5 a1_6 t322 t323 t326) = some r := by rw [if_neg (show ¬ (false = true) by decide)] at H; exact H
                   clear H
                   have H := H1
                   clear H1
                   have H' := Aside0.mk H
                   clear H
                   have hnb132 := NB346_319.out
                   have hnc132 := NB319_346.out
                   have hnb133 := NB346_320.out
                   have hnc133 := NB320_346.out
                   have hnb134 := NB346_329.out
                   have hnc134 := NB329_346.out
                   have hnb135 := NB346_340.out
                   have hnc135 := NB340_346.out
                   have hnb136 := NB346_355.out
                   have hnc136 := NB355_346.out
                   have hnb137 := NB346_361.out
                   have hnc137 := NB361_346.out
                   have hnb138 := NB346_373.out
                   have hnc138 := NB373_346.out
                   have hcz139_0 : w78.cell? ⟨gb346, 0, none⟩ = some (.int .i64 t341) := (blk_cell BK346.out 0).trans rfl
                   have hcz139_1 : w78.cell? ⟨gb346, 1, none⟩ = some (.int .i64 t342) := (blk_cell BK346.out 1).trans rfl
                   have hcz139_2 : w78.cell? ⟨gb346, 2, none⟩ = some (.int .i64 t343) := (blk_cell BK346.out 2).trans rfl
                   have hfz139_0 := blk_frozen BK346.out 0
                   have hfz139_1 := blk_frozen BK346.out 1
                   have hfz139_2 := blk_frozen BK346.out 2
                   have hnb140 := NB320_319.out
                   have hnc140 := NB319_320.out
                   have hnb141 := NB320_329.out
                   have hnc141 := NB329_320.out
                   have hnb142 := NB320_340.out
                   have hnc142 := NB340_320.out
                   have hnb143 := NB320_355.out
                   have hnc143 := NB355_320.out
                   have hnb144 := NB320_361.out
                   have hnc144 := NB361_320.out
                   have hnb145 := NB320_373.out
                   have hnc145 := NB373_320.out
                   have hcz146_0 : w78.cell? ⟨gb320, 0, none⟩ = some (.int .i64 a1_0) := (blk_cell BK320.out 0).trans rfl
                   have hcz146_1 : w78.cell? ⟨gb320, 1, none⟩ = some (.int .i64 a1_1) := (blk_cell BK320.out 1).trans rfl
                   have hcz146_2 : w78.cell? ⟨gb320, 2, none⟩ = some (.int .i64 a1_2) := (blk_cell BK320.out 2).trans rfl
                   have hcz146_3 : w78.cell? ⟨gb320, 3, none⟩ = some (.int .i64 a1_3) := (blk_cell BK320.out 3).trans rfl
                   have hcz146_4 : w78.cell? ⟨gb320, 4, none⟩ = some (.int .i64 a1_4) := (blk_cell BK320.out 4).trans rfl
                   have hcz146_5 : w78.cell? ⟨gb320, 5, none⟩ = some (.int .i64 a1_5) := (blk_cell BK320.out 5).trans rfl
                   have hcz146_6 : w78.cell? ⟨gb320, 6, none⟩ = some (.bool a1_6) := (blk_cell BK320.out 6).trans rfl
                   have hfz146_0 := blk_frozen BK320.out 0
                   have hfz146_1 := blk_frozen BK320.out 1
                   have hfz146_2 := blk_frozen BK320.out 2
                   have hfz146_3 := blk_frozen BK320.out 3
                   have hfz146_4 := blk_frozen BK320.out 4
                   have hfz146_5 := blk_frozen BK320.out 5
                   have hfz146_6 := blk_frozen BK320.out 6
                   have hnb147 := NB329_319.out
                   have hnc147 := NB319_329.out
                   have hnb148 := NB329_340.out
                   have hnc148 := NB340_329.out
                   have hnb149 := NB329_355.out
                   have hnc149 := NB355_329.out
                   have hnb150 := NB329_361.out
                   have hnc150 := NB361_329.out
                   have hnb151 := NB329_373.out
                   have hnc151 := NB373_329.out
                   have hcz152_0 : w78.cell? ⟨gb329, 0, none⟩ = some (.int .i64 t322) := (blk_cell BK329.out 0).trans rfl
                   have hcz152_1 : w78.cell? ⟨gb329, 1, none⟩ = some (.slice Ao21 t323.length co21) := (blk_cell BK329.out 1).trans rfl
                   have hcz152_2 : w78.cell? ⟨gb329, 2, none⟩ = some (.slice Ao22 t326.length co22) := (blk_cell BK329.out 2).trans rfl
                   have hfz152_0 := blk_frozen BK329.out 0
                   have hfz152_1 := blk_frozen BK329.out 1
                   have hfz152_2 := blk_frozen BK329.out 2
                   go_wp2_with (first | (go_at_call 22; (with_reducible refine (mainsheetlaw18_Op_time.calls a1_0 a1_1 a1_2 a1_3 a1_4 a1_5 a1_6 t322 _ _ t323 _ _ t326 t374 _ ?side1 ?side2 ?side3 ?side4 A106.out).mono ?_); (case side1 => refine (Kd.R_reads' (e := 88) (base := w.heap.size) (ok := fun k_ => ((some k_ ≠ (.slice Ao30 t333.length co30 : Value).ownBlock ∧ some k_ ≠ (.slice Ao64 t348.length co64 : Value).ownBlock) ∧ some k_ ≠ (.slice Ao87 t363.length co87 : Value).ownBlock)) (n := t323.length) (c := co21) ?_).2.2; exact (Rf_ HO325 BK373)); (case side2 => exact (Kd.R_reads' HO325.out).2.1); (case side3 => refine (Kd.R_reads' (e := 47) (base := w.heap.size) (ok := fun k_ => ((((some k_ ≠ (.slice Ao32 t336.length co32 : Value).ownBlock ∧ k_ ≠ gb346) ∧ some k_ ≠ (.slice Ao65 t351.length co65 : Value).ownBlock) ∧ k_ ≠ gb361) ∧ some k_ ≠ (.slice Ao88 t366.length co88 : Value).ownBlock)) (n := t326.length) (c := co22) ?_).2.2; exact (Rf_ HO328 BK373)); (case side4 => exact (Kd.R_reads' HO328.out).2.1); rintro e w153 ⟨rfl, hb⟩; replace HO325 := Aside0.mk (Kd.R_below (Rf_ HO325 BK373) hb); replace HO328 := Aside0.mk (Kd.R_below (Rf_ HO328 BK373) hb); replace HO335 := Aside0.mk (Kd.R_below (Rf_ HO335 BK373) hb); replace HO338 := Aside0.mk (Kd.R_below (Rf_ HO338 BK373) hb); replace HO350 := Aside0.mk (Kd.R_below (Rf_ HO350 BK373) hb); replace HO353 := Aside0.mk (Kd.R_below (Rf_ HO353 BK373) hb); replace HO365 := Aside0.mk (Kd.R_below (Rf_ HO365 BK373) hb); replace HO368 := Aside0.mk (Kd.R_below (Rf_ HO368 BK373) hb); replace HO371 := Aside0.mk (Kd.R_below (Rf_ HO371 BK373) hb); replace BK319 := Aside0.mk (blk_below (Bz_ BK319) hb); replace BK320 := Aside0.mk (blk_below (Bz_ BK320) hb); replace BK329 := Aside0.mk (blk_below (Bz_ BK329) hb); replace BK340 := Aside0.mk (blk_below (Bz_ BK340) hb); replace BK346 := Aside0.mk (blk_below (Bz_ BK346) hb); replace BK355 := Aside0.mk (blk_below (Bz_ BK355) hb); replace BK361 := Aside0.mk (blk_below (Bz_ BK361) hb); replace BK373 := Aside0.mk (blk_below (g := gb373) (o := .cells #[.int .i64 t362, .slice Ao87 t363.length co87, .slice Ao88 t366.length co88] 27 (0, 0)) (by (with_reducible repeat (first | refine blk_drewN ?_ _ | refine blk_drew ?_ | refine blk_alloc ?_ _)); refine blk_put (cs := #[.int .i64 t362, .slice Ao87 t363.length co87, .slice none 0 0]) ?_ 2 _ rfl; (with_reducible repeat (first | refine blk_drewN ?_ _ | refine blk_drew ?_ | refine blk_alloc ?_ _)); refine blk_put (cs := #[.int .i64 t362, .slice none 0 0, .slice none 0 0]) ?_ 1 _ rfl; (with_reducible repeat (first | refine blk_drewN ?_ _ | refine blk_drew ?_ | refine blk_alloc ?_ _)); refine blk_put (cs := #[.int .i64 0, .slice none 0 0, .slice none 0 0]) ?_ 0 _ rfl; (with_reducible repeat (first | refine blk_drewN ?_ _ | refine blk_drew ?_ | refine blk_alloc ?_ _)); exact BK373.out) hb); replace HB := Ls_ HB hb; (try clear hb); (try clear hb2); (try clear hk); (try clear hi)))
                   go_meet
                   case rel => exact ⟨_, ((t372 != 0)), S_, H', ⟨by first | omega | exact Nat.le_refl _⟩, ⟨R_ HO371⟩, ⟨by (with_reducible repeat (first | apply Kd.R_alloc | apply Kd.R_drewN | apply Kd.R_drew)); exact Kd.R_mono HO325.out (fun _ hk => ⟨hk.1.1, ⟨hk.1.2, hk.2⟩⟩)⟩, ⟨by (with_reducible repeat (first | apply Kd.R_alloc | apply Kd.R_drewN | apply Kd.R_drew)); exact Kd.R_mono HO328.out (fun _ hk => ⟨hk.1.1.1.1, ⟨hk.1.1.2, ⟨hk.2, ⟨hk.1.1.1.2, hk.1.2⟩⟩⟩⟩)⟩, ⟨by (with_reducible repeat (first | apply Kd.R_alloc | apply Kd.R_drewN | apply Kd.R_drew)); exact Kd.R_mono HO335.out (fun _ hk => ⟨hk.1.1, ⟨hk.1.2, hk.2⟩⟩)⟩, ⟨by (with_reducible repeat (first | apply Kd.R_alloc | apply Kd.R_drewN | apply Kd.R_drew)); exact Kd.R_mono HO338.out (fun _ hk => ⟨hk.1.1.1.1, ⟨hk.1.1.2, ⟨hk.2, ⟨hk.1.1.1.2, hk.1.2⟩⟩⟩⟩)⟩, ⟨by (with_reducible repeat (first | apply Kd.R_alloc | apply Kd.R_drewN | apply Kd.R_drew)); exact Kd.R_mono HO350.out (fun _ hk => ⟨hk.1.1.2, ⟨hk.1.2, hk.2⟩⟩)⟩, ⟨by (with_reducible repeat (first | apply Kd.R_alloc | apply Kd.R_drewN | apply Kd.R_drew)); exact Kd.R_mono HO353.out (fun _ hk => ⟨hk.1.1.1.1.2, ⟨hk.1.1.1.2, ⟨hk.2, ⟨hk.1.1.2, hk.1.2⟩⟩⟩⟩)⟩, ⟨by (with_reducible repeat (first | apply Kd.R_alloc | apply Kd.R_drewN | apply Kd.R_drew)); exact Kd.R_mono HO365.out (fun _ hk => ⟨hk.1.1.2, ⟨hk.1.2, hk.2⟩⟩)⟩, ⟨by (with_reducible repeat (first | apply Kd.R_alloc | apply Kd.R_drewN | apply Kd.R_drew)); exact Kd.R_mono HO368.out (fun _ hk => ⟨hk.1.1.1.1.2, ⟨hk.1.1.1.2, ⟨hk.1.1.2, ⟨hk.1.2, hk.2⟩⟩⟩⟩)⟩, ⟨B_ BK319⟩, ⟨B_ BK320⟩, ⟨B_ BK329⟩, ⟨B_ BK340⟩, ⟨B_ BK346⟩, ⟨B_ BK355⟩, ⟨B_ BK361⟩, ⟨B_ BK373⟩, ⟨L_⟩⟩
               · rw [if_neg c108] at H
                 have c108b0 : (t354 == 0) = false := beq_eq_false_iff_ne.mpr c108
                 have c108b1 : (t354 != 0) = true := bne_iff_ne.mpr c108
                 exact (mainsheetlaw18_VtimerStops.j0_true H hr_).elim
             · rw [if_neg c107] at H
               have c107b0 : (t344 == t374) = false := beq_eq_false_iff_ne.mpr c107
               have c107b1 : (t344 != t374) = true := bne_iff_ne.mpr c107
               exact (mainsheetlaw18_VtimerStops.j0_true H hr_).elim
         · replace c89 := Bool.eq_false_iff.mpr c89
           subst c89
           have H1 : (mainsheetlaw18_VtimerStops.j0 k t369 true a1_0 a1_1 a1_2 a1_3 a1_4 a1_5 a1_6 t322 t323 t326) = some r := by rw [if_neg (show ¬ (false = true) by decide)] at H; exact H
           clear H
           have H := H1
           clear H1
           exact (mainsheetlaw18_VtimerStops.j0_true H hr_).elim
        case rest =>
         clear HC39
         try clear c1; try clear c2; try clear p2; try clear c3; try clear c4; try clear c5; try clear c6; try clear c7; try clear c8; try clear c9; try clear c10; try clear c11; try clear c12; try clear c13; try clear c14; try clear c15; try clear c16; try clear c17; try clear c18; try clear c19; try clear c23; try clear c34; try clear c34b0; try clear c34b1; try clear c40; try clear c41; try clear c42; try clear c44; try clear c45; try clear c49; try clear c50; try clear c51; try clear c52; try clear c58; try clear c59; try clear c60; try clear c61; try clear c62; try clear c69; try clear c70; try clear c71; try clear c72; try clear c73; try clear c74; try clear c79; try clear c80; try clear c81; try clear c82; try clear c83; try clear c84; try clear c85; try clear c89; try clear c90; try clear c90b0; try clear c91; try clear c92; try clear c93; try clear c94; try clear c95; try clear c96; try clear c97; try clear c99; try clear c100; try clear c101; try clear c102; try clear c103; try clear c104; try clear c107; try clear c107b0; try clear c107b1; try clear c108; try clear c108b0; try clear c108b1; try clear c109; try clear c110; try clear c111; try clear c112; try clear c113; try clear c114; try clear c115; try clear c116; try clear c118; try clear c119; try clear c120; try clear c121; try clear c122; try clear c123; try clear c125; try clear c126; try clear c127; try clear c128; try clear c129; try clear c132; try clear c133; try clear c134; try clear c135; try clear c136; try clear c137; try clear c138; try clear c140; try clear c141; try clear c142; try clear c143; try clear c144; try clear c145; try clear c147; try clear c148; try clear c149; try clear c150; try clear c151; try clear c154; try clear c155; try clear c156; try clear c157; try clear c158; try clear c159; try clear c160; try clear c162; try clear c163; try clear c164; try clear c165; try clear c166; try clear c167; try clear c169; try clear c170; try clear c171; try clear c172; try clear c173; try clear c176; try clear c177; try clear c178; try clear c179; try clear c180; try clear c181; try clear c182; try clear c184; try clear c185; try clear c186; try clear c187; try clear c188; try clear c189; try clear c191; try clear c192; try clear c193; try clear c194; try clear c195; try clear hcz105_0; try clear hcz105_1; try clear hcz105_2; try clear hcz105_3; try clear hcz105_4; try clear hcz105_5; try clear hcz105_6; try clear hcz117_0; try clear hcz117_1; try clear hcz117_2; try clear hcz124_0; try clear hcz124_1; try clear hcz124_2; try clear hcz124_3; try clear hcz124_4; try clear hcz124_5; try clear hcz124_6; try clear hcz130_0; try clear hcz130_1; try clear hcz130_2; try clear hcz139_0; try clear hcz139_1; try clear hcz139_2; try clear hcz146_0; try clear hcz146_1; try clear hcz146_2; try clear hcz146_3; try clear hcz146_4; try clear hcz146_5; try clear hcz146_6; try clear hcz152_0; try clear hcz152_1; try clear hcz152_2; try clear hcz161_0; try clear hcz161_1; try clear hcz161_2; try clear hcz168_0; try clear hcz168_1; try clear hcz168_2; try clear hcz168_3; try clear hcz168_4; try clear hcz168_5; try clear hcz168_6; try clear hcz174_0; try clear hcz174_1; try clear hcz174_2; try clear hcz183_0; try clear hcz183_1; try clear hcz183_2; try clear hcz190_0; try clear hcz190_1; try clear hcz190_2; try clear hcz190_3; try clear hcz190_4; try clear hcz190_5; try clear hcz190_6; try clear hcz196_0; try clear hcz196_1; try clear hcz196_2; try clear hcz43_0; try clear hcz43_1; try clear hcz43_2; try clear hcz46_0; try clear hcz46_1; try clear hcz46_2; try clear hcz46_3; try clear hcz46_4; try clear hcz46_5; try clear hcz46_6; try clear hcz53_0; try clear hcz53_1; try clear hcz53_2; try clear hcz54_0; try clear hcz54_1; try clear hcz54_2; try clear hcz55_0; try clear hcz55_1; try clear hcz55_2; try clear hcz55_3; try clear hcz55_4; try clear hcz55_5; try clear hcz55_6; try clear hcz63_0; try clear hcz63_1; try clear hcz63_2; try clear hcz66_0; try clear hcz66_1; try clear hcz66_2; try clear hcz66_3; try clear hcz66_4; try clear hcz66_5; try clear hcz66_6; try clear hcz75_0; try clear hcz75_1; try clear hcz75_2; try clear hcz76_0; try clear hcz76_1; try clear hcz76_2; try clear hcz86_0; try clear hcz86_1; try clear hcz86_2; try clear hcz98_0; try clear hcz98_1; try clear hcz98_2; try clear hfz105_0; try clear hfz105_1; try clear hfz105_2; try clear hfz105_3; try clear hfz105_4; try clear hfz105_5; try clear hfz105_6; try clear hfz117_0; try clear hfz117_1; try clear hfz117_2; try clear hfz124_0; try clear hfz124_1; try clear hfz124_2; try clear hfz124_3; try clear hfz124_4; try clear hfz124_5; try clear hfz124_6; try clear hfz130_0; try clear hfz130_1; try clear hfz130_2; try clear hfz139_0; try clear hfz139_1; try clear hfz139_2; try clear hfz146_0; try clear hfz146_1; try clear hfz146_2; try clear hfz146_3; try clear hfz146_4; try clear hfz146_5; try clear hfz146_6; try clear hfz152_0; try clear hfz152_1; try clear hfz152_2; try clear hfz161_0; try clear hfz161_1; try clear hfz161_2; try clear hfz168_0; try clear hfz168_1; try clear hfz168_2; try clear hfz168_3; try clear hfz168_4; try clear hfz168_5; try clear hfz168_6; try clear hfz174_0; try clear hfz174_1; try clear hfz174_2; try clear hfz183_0; try clear hfz183_1; try clear hfz183_2; try clear hfz190_0; try clear hfz190_1; try clear hfz190_2; try clear hfz190_3; try clear hfz190_4; try clear hfz190_5; try clear hfz190_6; try clear hfz196_0; try clear hfz196_1; try clear hfz196_2; try clear hfz43_0; try clear hfz43_1; try clear hfz43_2; try clear hfz46_0; try clear hfz46_1; try clear hfz46_2; try clear hfz46_3; try clear hfz46_4; try clear hfz46_5; try clear hfz46_6; try clear hfz53_0; try clear hfz53_1; try clear hfz53_2; try clear hfz54_0; try clear hfz54_1; try clear hfz54_2; try clear hfz55_0; try clear hfz55_1; try clear hfz55_2; try clear hfz55_3; try clear hfz55_4; try clear hfz55_5; try clear hfz55_6; try clear hfz63_0; try clear hfz63_1; try clear hfz63_2; try clear hfz66_0; try clear hfz66_1; try clear hfz66_2; try clear hfz66_3; try clear hfz66_4; try clear hfz66_5; try clear hfz66_6; try clear hfz75_0; try clear hfz75_1; try clear hfz75_2; try clear hfz76_0; try clear hfz76_1; try clear hfz76_2; try clear hfz86_0; try clear hfz86_1; try clear hfz86_2; try clear hfz98_0; try clear hfz98_1; try clear hfz98_2
         obtain ⟨kq, x106_38, rfl, HA, HJ38, HO_17, HO_330001, HO_330002, HO_341001, HO_341002, HO_356001, HO_356002, HO_374001, HO_374002, BK319, BK320, BK329, BK340, BK346, BK355, BK361, BK373, HB⟩ := hcut
         cases kq with
         | zero => exact absurd HA.out (by simp [mainsheetlaw18_VtimerStops.j0])
         | succ kj38 =>
          have H := HA.out
          clear HA
          simp only [mainsheetlaw18_VtimerStops.j0] at H
          by_cases c198 : x106_38 = true
          · subst c198
            have H1 : (some false) = some r := by rw [if_pos rfl] at H; exact H
            clear H
            have H := H1
            clear H1
            exact absurd ((Option.some.inj H).trans hr_) (by decide) -- leaf 1
          · replace c198 := Bool.eq_false_iff.mpr c198
            subst c198
            have H1 : (mainsheetlaw18_VtimerStops.l0 kj38 t369 (t369.length : Int) 0 a1_0 a1_1 a1_2 a1_3 a1_4 a1_5 a1_6 t322 t323 t326) = some r := by rw [if_neg (show ¬ (false = true) by decide)] at H; exact H
            clear H
            have H := H1
            clear H1
            have H' := Aside0.mk H
            clear H
            obtain ⟨Ao199, co199, eo199⟩ := Kd.R_slice HO_17.out
            subst eo199
            go_wp2
            go_loopg [109] kj38 (fun kq v109 w' => ∃ (x109_2 : Int), v109 = .int .i64 x109_2 ∧ Aside0 (mainsheetlaw18_VtimerStops.l0 kq t369 (t369.length : Int) x109_2 a1_0 a1_1 a1_2 a1_3 a1_4 a1_5 a1_6 t322 t323 t326 = some r) ∧ Aside0 (kq ≤ kj38) ∧ Aside0 (Kd.R k44 44 w' w.heap.size (fun _ => True) (.slice Ao199 t369.length co199) t369) ∧ Aside0 (Kd.R k88 88 w' w.heap.size (fun k_ => some k_ ≠ ((.slice Ao30 t333.length co30) : Value).ownBlock ∧ some k_ ≠ ((.slice Ao64 t348.length co64) : Value).ownBlock ∧ some k_ ≠ ((.slice Ao87 t363.length co87) : Value).ownBlock) (.slice Ao21 t323.length co21) t323) ∧ Aside0 (Kd.R k47 47 w' w.heap.size (fun k_ => some k_ ≠ ((.slice Ao32 t336.length co32) : Value).ownBlock ∧ some k_ ≠ ((.slice Ao65 t351.length co65) : Value).ownBlock ∧ some k_ ≠ ((.slice Ao88 t366.length co88) : Value).ownBlock ∧ k_ ≠ gb346 ∧ k_ ≠ gb361) (.slice Ao22 t326.length co22) t326) ∧ Aside0 (Kd.R k88 88 w' w.heap.size (fun k_ => some k_ ≠ ((.slice Ao21 t323.length co21) : Value).ownBlock ∧ some k_ ≠ ((.slice Ao64 t348.length co64) : Value).ownBlock ∧ some k_ ≠ ((.slice Ao87 t363.length co87) : Value).ownBlock) (.slice Ao30 t333.length co30) t333) ∧ Aside0 (Kd.R k47 47 w' w.heap.size (fun k_ => some k_ ≠ ((.slice Ao22 t326.length co22) : Value).ownBlock ∧ some k_ ≠ ((.slice Ao65 t351.length co65) : Value).ownBlock ∧ some k_ ≠ ((.slice Ao88 t366.length co88) : Value).ownBlock ∧ k_ ≠ gb346 ∧ k_ ≠ gb361) (.slice Ao32 t336.length co32) t336) ∧ Aside0 (Kd.R k88 88 w' w.heap.size (fun k_ => some k_ ≠ ((.slice Ao21 t323.length co21) : Value).ownBlock ∧ some k_ ≠ ((.slice Ao30 t333.length co30) : Value).ownBlock ∧ some k_ ≠ ((.slice Ao87 t363.length co87) : Value).ownBlock) (.slice Ao64 t348.length co64) t348) ∧ Aside0 (Kd.R k47 47 w' w.heap.size (fun k_ => some k_ ≠ ((.slice Ao22 t326.length co22) : Value).ownBlock ∧ some k_ ≠ ((.slice Ao32 t336.length co32) : Value).ownBlock ∧ some k_ ≠ ((.slice Ao88 t366.length co88) : Value).ownBlock ∧ k_ ≠ gb346 ∧ k_ ≠ gb361) (.slice Ao65 t351.length co65) t351) ∧ Aside0 (Kd.R k88 88 w' w.heap.size (fun k_ => some k_ ≠ ((.slice Ao21 t323.length co21) : Value).ownBlock ∧ some k_ ≠ ((.slice Ao30 t333.length co30) : Value).ownBlock ∧ some k_ ≠ ((.slice Ao64 t348.length co64) : Value).ownBlock) (.slice Ao87 t363.length co87) t363) ∧ Aside0 (Kd.R k47 47 w' w.heap.size (fun k_ => some k_ ≠ ((.slice Ao22 t326.length co22) : Value).ownBlock ∧ some k_ ≠ ((.slice Ao32 t336.length co32) : Value).ownBlock ∧ some k_ ≠ ((.slice Ao65 t351.length co65) : Value).ownBlock ∧ k_ ≠ gb346 ∧ k_ ≠ gb361) (.slice Ao88 t366.length co88) t366) ∧ Aside0 (w'.heap[gb319]? = some (.cells #[.int .i64 a0_0, (.slice A0_1 l0_1.length c0_1), (.slice A0_2 l0_2.length c0_2)] 27 (0, 0))) ∧ Aside0 (w'.heap[gb320]? = some (.cells #[.int .i64 a1_0, .int .i64 a1_1, .int .i64 a1_2, .int .i64 a1_3, .int .i64 a1_4, .int .i64 a1_5, .bool a1_6] 58 (0, 0))) ∧ Aside0 (w'.heap[gb329]? = some (.cells #[.int .i64 t322, (.slice Ao21 t323.length co21), (.slice Ao22 t326.length co22)] 27 (0, 0))) ∧ Aside0 (w'.heap[gb340]? = some (.cells #[.int .i64 t332, (.slice Ao30 t333.length co30), (.slice Ao32 t336.length co32)] 27 (0, 0))) ∧ Aside0 (w'.heap[gb346]? = some (.cells #[.int .i64 t341, .int .i64 t342, .int .i64 t343] 47 (0, 0))) ∧ Aside0 (w'.heap[gb355]? = some (.cells #[.int .i64 t347, (.slice Ao64 t348.length co64), (.slice Ao65 t351.length co65)] 27 (0, 0))) ∧ Aside0 (w'.heap[gb361]? = some (.cells #[.int .i64 t356, .int .i64 t357, .int .i64 t358] 47 (0, 0))) ∧ Aside0 (w'.heap[gb373]? = some (.cells #[.int .i64 t362, (.slice Ao87 t363.length co87), (.slice Ao88 t366.length co88)] 27 (0, 0))) ∧ Aside0 (Below w.heap.size w w'))
            case atStart => exact ⟨(0), S_, H', ⟨Nat.le_refl _⟩, ⟨R_ HO_17⟩, ⟨R_ HO_330001⟩, ⟨R_ HO_330002⟩, ⟨R_ HO_341001⟩, ⟨R_ HO_341002⟩, ⟨R_ HO_356001⟩, ⟨R_ HO_356002⟩, ⟨R_ HO_374001⟩, ⟨R_ HO_374002⟩, ⟨B_ BK319⟩, ⟨B_ BK320⟩, ⟨B_ BK329⟩, ⟨B_ BK340⟩, ⟨B_ BK346⟩, ⟨B_ BK355⟩, ⟨B_ BK361⟩, ⟨B_ BK373⟩, ⟨L_⟩⟩
            case round =>
             clear H'
             try clear c1; try clear c2; try clear p2; try clear c3; try clear c4; try clear c5; try clear c6; try clear c7; try clear c8; try clear c9; try clear c10; try clear c11; try clear c12; try clear c13; try clear c14; try clear c15; try clear c16; try clear c17; try clear c18; try clear c19; try clear c23; try clear c34; try clear c34b0; try clear c34b1; try clear c40; try clear c41; try clear c42; try clear c44; try clear c45; try clear c49; try clear c50; try clear c51; try clear c52; try clear c58; try clear c59; try clear c60; try clear c61; try clear c62; try clear c69; try clear c70; try clear c71; try clear c72; try clear c73; try clear c74; try clear c79; try clear c80; try clear c81; try clear c82; try clear c83; try clear c84; try clear c85; try clear c89; try clear c90; try clear c90b0; try clear c91; try clear c92; try clear c93; try clear c94; try clear c95; try clear c96; try clear c97; try clear c99; try clear c100; try clear c101; try clear c102; try clear c103; try clear c104; try clear c107; try clear c107b0; try clear c107b1; try clear c108; try clear c108b0; try clear c108b1; try clear c109; try clear c110; try clear c111; try clear c112; try clear c113; try clear c114; try clear c115; try clear c116; try clear c118; try clear c119; try clear c120; try clear c121; try clear c122; try clear c123; try clear c125; try clear c126; try clear c127; try clear c128; try clear c129; try clear c132; try clear c133; try clear c134; try clear c135; try clear c136; try clear c137; try clear c138; try clear c140; try clear c141; try clear c142; try clear c143; try clear c144; try clear c145; try clear c147; try clear c148; try clear c149; try clear c150; try clear c151; try clear c154; try clear c155; try clear c156; try clear c157; try clear c158; try clear c159; try clear c160; try clear c162; try clear c163; try clear c164; try clear c165; try clear c166; try clear c167; try clear c169; try clear c170; try clear c171; try clear c172; try clear c173; try clear c176; try clear c177; try clear c178; try clear c179; try clear c180; try clear c181; try clear c182; try clear c184; try clear c185; try clear c186; try clear c187; try clear c188; try clear c189; try clear c191; try clear c192; try clear c193; try clear c194; try clear c195; try clear c198; try clear hcz105_0; try clear hcz105_1; try clear hcz105_2; try clear hcz105_3; try clear hcz105_4; try clear hcz105_5; try clear hcz105_6; try clear hcz117_0; try clear hcz117_1; try clear hcz117_2; try clear hcz124_0; try clear hcz124_1; try clear hcz124_2; try clear hcz124_3; try clear hcz124_4; try clear hcz124_5; try clear hcz124_6; try clear hcz130_0; try clear hcz130_1; try clear hcz130_2; try clear hcz139_0; try clear hcz139_1; try clear hcz139_2; try clear hcz146_0; try clear hcz146_1; try clear hcz146_2; try clear hcz146_3; try clear hcz146_4; try clear hcz146_5; try clear hcz146_6; try clear hcz152_0; try clear hcz152_1; try clear hcz152_2; try clear hcz161_0; try clear hcz161_1; try clear hcz161_2; try clear hcz168_0; try clear hcz168_1; try clear hcz168_2; try clear hcz168_3; try clear hcz168_4; try clear hcz168_5; try clear hcz168_6; try clear hcz174_0; try clear hcz174_1; try clear hcz174_2; try clear hcz183_0; try clear hcz183_1; try clear hcz183_2; try clear hcz190_0; try clear hcz190_1; try clear hcz190_2; try clear hcz190_3; try clear hcz190_4; try clear hcz190_5; try clear hcz190_6; try clear hcz196_0; try clear hcz196_1; try clear hcz196_2; try clear hcz43_0; try clear hcz43_1; try clear hcz43_2; try clear hcz46_0; try clear hcz46_1; try clear hcz46_2; try clear hcz46_3; try clear hcz46_4; try clear hcz46_5; try clear hcz46_6; try clear hcz53_0; try clear hcz53_1; try clear hcz53_2; try clear hcz54_0; try clear hcz54_1; try clear hcz54_2; try clear hcz55_0; try clear hcz55_1; try clear hcz55_2; try clear hcz55_3; try clear hcz55_4; try clear hcz55_5; try clear hcz55_6; try clear hcz63_0; try clear hcz63_1; try clear hcz63_2; try clear hcz66_0; try clear hcz66_1; try clear hcz66_2; try clear hcz66_3; try clear hcz66_4; try clear hcz66_5; try clear hcz66_6; try clear hcz75_0; try clear hcz75_1; try clear hcz75_2; try clear hcz76_0; try clear hcz76_1; try clear hcz76_2; try clear hcz86_0; try clear hcz86_1; try clear hcz86_2; try clear hcz98_0; try clear hcz98_1; try clear hcz98_2; try clear hfz105_0; try clear hfz105_1; try clear hfz105_2; try clear hfz105_3; try clear hfz105_4; try clear hfz105_5; try clear hfz105_6; try clear hfz117_0; try clear hfz117_1; try clear hfz117_2; try clear hfz124_0; try clear hfz124_1; try clear hfz124_2; try clear hfz124_3; try clear hfz124_4; try clear hfz124_5; try clear hfz124_6; try clear hfz130_0; try clear hfz130_1; try clear hfz130_2; try clear hfz139_0; try clear hfz139_1; try clear hfz139_2; try clear hfz146_0; try clear hfz146_1; try clear hfz146_2; try clear hfz146_3; try clear hfz146_4; try clear hfz146_5; try clear hfz146_6; try clear hfz152_0; try clear hfz152_1; try clear hfz152_2; try clear hfz161_0; try clear hfz161_1; try clear hfz161_2; try clear hfz168_0; try clear hfz168_1; try clear hfz168_2; try clear hfz168_3; try clear hfz168_4; try clear hfz168_5; try clear hfz168_6; try clear hfz174_0; try clear hfz174_1; try clear hfz174_2; try clear hfz183_0; try clear hfz183_1; try clear hfz183_2; try clear hfz190_0; try clear hfz190_1; try clear hfz190_2; try clear hfz190_3; try clear hfz190_4; try clear hfz190_5; try clear hfz190_6; try clear hfz196_0; try clear hfz196_1; try clear hfz196_2; try clear hfz43_0; try clear hfz43_1; try clear hfz43_2; try clear hfz46_0; try clear hfz46_1; try clear hfz46_2; try clear hfz46_3; try clear hfz46_4; try clear hfz46_5; try clear hfz46_6; try clear hfz53_0; try clear hfz53_1; try clear hfz53_2; try clear hfz54_0; try clear hfz54_1; try clear hfz54_2; try clear hfz55_0; try clear hfz55_1; try clear hfz55_2; try clear hfz55_3; try clear hfz55_4; try clear hfz55_5; try clear hfz55_6; try clear hfz63_0; try clear hfz63_1; try clear hfz63_2; try clear hfz66_0; try clear hfz66_1; try clear hfz66_2; try clear hfz66_3; try clear hfz66_4; try clear hfz66_5; try clear hfz66_6; try clear hfz75_0; try clear hfz75_1; try clear hfz75_2; try clear hfz76_0; try clear hfz76_1; try clear hfz76_2; try clear hfz86_0; try clear hfz86_1; try clear hfz86_2; try clear hfz98_0; try clear hfz98_1; try clear hfz98_2; try clear p2
             obtain ⟨x109_2, rfl, HA, HK2, HO_107, HO_330001, HO_330002, HO_341001, HO_341002, HO_356001, HO_356002, HO_374001, HO_374002, BK319, BK320, BK329, BK340, BK346, BK355, BK361, BK373, HB⟩ := hrel
             cases gk with
             | zero => exact absurd HA.out (by simp [mainsheetlaw18_VtimerStops.l0])
             | succ k2 =>
              have H := HA.out
              clear HA
              simp only [mainsheetlaw18_VtimerStops.l0] at H
              by_cases c200 : x109_2 < (t369.length : Int)
              · rw [if_pos c200] at H
                have c200b0 : decide (x109_2 < (t369.length : Int)) = true := decide_eq_true c200
                clear c200
                by_cases c201 : 0 ≤ x109_2
                · rw [if_pos c201] at H
                  have c201b0 : decide (0 ≤ x109_2) = true := decide_eq_true c201
                  clear c201
                  by_cases c202 : x109_2 < (t369.length : Int)
                  · rw [if_pos c202] at H
                    have c202b0 : decide (x109_2 < (t369.length : Int)) = true := decide_eq_true c202
                    clear c202
                    by_cases c203 : ((rd_T44 t369 x109_2).f0) = a1_2
                    · rw [if_pos c203] at H
                      have c203b0 : (((rd_T44 t369 x109_2).f0) == a1_2) = true := beq_iff_eq.mpr c203
                      have c203b1 : (((rd_T44 t369 x109_2).f0) != a1_2) = false := bne_eq_false_iff_eq.mpr c203
                      clear c203
                      by_cases c204 : ((rd_T44 t369 x109_2).f1) > 0
                      · rw [if_pos c204] at H
                        have c204b0 : decide (0 < ((rd_T44 t369 x109_2).f1)) = true := decide_eq_true c204
                        clear c204
                        exact absurd ((Option.some.inj H).trans hr_) (by decide) -- leaf 2
                      · rw [if_neg c204] at H
                        have c204b0 : decide (0 < ((rd_T44 t369 x109_2).f1)) = false := decide_eq_false c204
                        clear c204
                        have H' := Aside0.mk H
                        clear H
                        have p375 : 0 ≤ (x109_2 : Int) := of_decide_eq_true As_
                        have q375 : x109_2 < (t369.length : Int) := of_decide_eq_true As_
                        obtain ⟨ad375, e375, hx375_0, hx375_1, hx375_2, hx375_3⟩ := at_T44 (Kd.R_reads' HO_107.out).2.2 x109_2 p375 q375
                        cases e375
                        replace p375 := eq_true p375
                        replace q375 := eq_true q375
                        go_wp2_with (first | ((with_reducible refine gate_dst (N := 20) rfl ?_); refine box_ 20 44 #[.int .i64 0, .int .i64 0, .int .i64 0, .int .i64 0] ?_; intro gb376 hg w223 hbox hb; have BK376 := Aside0.mk (hbox); have GW376 := G_ hg HB; have GE376 := G_ hg HB; have NB319_376 := Nl_ hg BK319; have NB376_319 := Ng_ hg BK319; have NB320_376 := Nl_ hg BK320; have NB376_320 := Ng_ hg BK320; have NB329_376 := Nl_ hg BK329; have NB376_329 := Ng_ hg BK329; have NB340_376 := Nl_ hg BK340; have NB376_340 := Ng_ hg BK340; have NB346_376 := Nl_ hg BK346; have NB376_346 := Ng_ hg BK346; have NB355_376 := Nl_ hg BK355; have NB376_355 := Ng_ hg BK355; have NB361_376 := Nl_ hg BK361; have NB376_361 := Ng_ hg BK361; have NB373_376 := Nl_ hg BK373; have NB376_373 := Ng_ hg BK373; replace HO_107 := Aside0.mk (Kd.R_below (Kd.R_elderB (R_ HO_107) gb376 (Nat.le_of_eq hg.symm)) hb); replace HO_330001 := Rb_ HO_330001 hb; replace HO_330002 := Rb_ HO_330002 hb; replace HO_341001 := Rb_ HO_341001 hb; replace HO_341002 := Rb_ HO_341002 hb; replace HO_356001 := Rb_ HO_356001 hb; replace HO_356002 := Rb_ HO_356002 hb; replace HO_374001 := Rb_ HO_374001 hb; replace HO_374002 := Rb_ HO_374002 hb; replace BK319 := Bb_ BK319 hb; replace BK320 := Bb_ BK320 hb; replace BK329 := Bb_ BK329 hb; replace BK340 := Bb_ BK340 hb; replace BK346 := Bb_ BK346 hb; replace BK355 := Bb_ BK355 hb; replace BK361 := Bb_ BK361 hb; replace BK373 := Bb_ BK373 hb; replace HB := Ls_ HB hb; clear hb hbox hg; have hnb224 := NB376_319.out; have hnc224 := NB319_376.out; have hnb225 := NB376_320.out; have hnc225 := NB320_376.out; have hnb226 := NB376_329.out; have hnc226 := NB329_376.out; have hnb227 := NB376_340.out; have hnc227 := NB340_376.out; have hnb228 := NB376_346.out; have hnc228 := NB346_376.out; have hnb229 := NB376_355.out; have hnc229 := NB355_376.out; have hnb230 := NB376_361.out; have hnc230 := NB361_376.out; have hnb231 := NB376_373.out; have hnc231 := NB373_376.out; have hcz232_0 : w223.cell? ⟨gb376, 0, none⟩ = some (.int .i64 0) := (blk_cell BK376.out 0).trans rfl; have hcz232_1 : w223.cell? ⟨gb376, 1, none⟩ = some (.int .i64 0) := (blk_cell BK376.out 1).trans rfl; have hcz232_2 : w223.cell? ⟨gb376, 2, none⟩ = some (.int .i64 0) := (blk_cell BK376.out 2).trans rfl; have hcz232_3 : w223.cell? ⟨gb376, 3, none⟩ = some (.int .i64 0) := (blk_cell BK376.out 3).trans rfl; have hfz232_0 := blk_frozen BK376.out 0; have hfz232_1 := blk_frozen BK376.out 1; have hfz232_2 := blk_frozen BK376.out 2; have hfz232_3 := blk_frozen BK376.out 3; have hnb233 := NB320_319.out; have hnc233 := NB319_320.out; have hnb234 := NB320_329.out; have hnc234 := NB329_320.out; have hnb235 := NB320_340.out; have hnc235 := NB340_320.out; have hnb236 := NB320_346.out; have hnc236 := NB346_320.out; have hnb237 := NB320_355.out; have hnc237 := NB355_320.out; have hnb238 := NB320_361.out; have hnc238 := NB361_320.out; have hnb239 := NB320_373.out; have hnc239 := NB373_320.out; have hcz240_0 : w223.cell? ⟨gb320, 0, none⟩ = some (.int .i64 a1_0) := (blk_cell BK320.out 0).trans rfl; have hcz240_1 : w223.cell? ⟨gb320, 1, none⟩ = some (.int .i64 a1_1) := (blk_cell BK320.out 1).trans rfl; have hcz240_2 : w223.cell? ⟨gb320, 2, none⟩ = some (.int .i64 a1_2) := (blk_cell BK320.out 2).trans rfl; have hcz240_3 : w223.cell? ⟨gb320, 3, none⟩ = some (.int .i64 a1_3) := (blk_cell BK320.out 3).trans rfl; have hcz240_4 : w223.cell? ⟨gb320, 4, none⟩ = some (.int .i64 a1_4) := (blk_cell BK320.out 4).trans rfl; have hcz240_5 : w223.cell? ⟨gb320, 5, none⟩ = some (.int .i64 a1_5) := (blk_cell BK320.out 5).trans rfl; have hcz240_6 : w223.cell? ⟨gb320, 6, none⟩ = some (.bool a1_6) := (blk_cell BK320.out 6).trans rfl; have hfz240_0 := blk_frozen BK320.out 0; have hfz240_1 := blk_frozen BK320.out 1; have hfz240_2 := blk_frozen BK320.out 2; have hfz240_3 := blk_frozen BK320.out 3; have hfz240_4 := blk_frozen BK320.out 4; have hfz240_5 := blk_frozen BK320.out 5; have hfz240_6 := blk_frozen BK320.out 6))
                        go_roundg k2
                        case measure => have := HJ38.out; have := HK2.out; omega
                        case rel => exact ⟨(wrap64 (x109_2 + 1)), S_, H', ⟨by have := HJ38.out; have := HK2.out; omega⟩, ⟨by (with_reducible repeat (first | apply Kd.R_alloc | apply Kd.R_drewN | apply Kd.R_drew)); exact Kd.R_mono (Kd.R_far (p := ⟨gb376, 3, none⟩) (Kd.R_far (p := ⟨gb376, 2, none⟩) (Kd.R_far (p := ⟨gb376, 1, none⟩) (Kd.R_far (p := ⟨gb376, 0, none⟩) (Kd.R_mono HO_107.out (fun k_ hk => (⟨hk, hk.2⟩ : _ ∧ k_ ≠ gb376))) (fun _ hk => hk.2) (.int .i64 ((rd_T44 t369 x109_2).f0))) (fun _ hk => hk.2) (.int .i64 ((rd_T44 t369 x109_2).f1))) (fun _ hk => hk.2) (.int .i64 ((rd_T44 t369 x109_2).f2))) (fun _ hk => hk.2) (.int .i64 ((rd_T44 t369 x109_2).f3))) (fun _ hk => trivial)⟩, ⟨by (with_reducible repeat (first | apply Kd.R_alloc | apply Kd.R_drewN | apply Kd.R_drew)); exact Kd.R_mono (Kd.R_far (p := ⟨gb376, 3, none⟩) (Kd.R_far (p := ⟨gb376, 2, none⟩) (Kd.R_far (p := ⟨gb376, 1, none⟩) (Kd.R_far (p := ⟨gb376, 0, none⟩) (Kd.R_types HO_330001.out BK376.out (by decide)) (fun _ hk => hk.2) (.int .i64 ((rd_T44 t369 x109_2).f0))) (fun _ hk => hk.2) (.int .i64 ((rd_T44 t369 x109_2).f1))) (fun _ hk => hk.2) (.int .i64 ((rd_T44 t369 x109_2).f2))) (fun _ hk => hk.2) (.int .i64 ((rd_T44 t369 x109_2).f3))) (fun _ hk => ⟨hk.1.1, ⟨hk.1.2.1, hk.1.2.2⟩⟩)⟩, ⟨by (with_reducible repeat (first | apply Kd.R_alloc | apply Kd.R_drewN | apply Kd.R_drew)); exact Kd.R_mono (Kd.R_far (p := ⟨gb376, 3, none⟩) (Kd.R_far (p := ⟨gb376, 2, none⟩) (Kd.R_far (p := ⟨gb376, 1, none⟩) (Kd.R_far (p := ⟨gb376, 0, none⟩) (Kd.R_types HO_330002.out BK376.out (by decide)) (fun _ hk => hk.2) (.int .i64 ((rd_T44 t369 x109_2).f0))) (fun _ hk => hk.2) (.int .i64 ((rd_T44 t369 x109_2).f1))) (fun _ hk => hk.2) (.int .i64 ((rd_T44 t369 x109_2).f2))) (fun _ hk => hk.2) (.int .i64 ((rd_T44 t369 x109_2).f3))) (fun _ hk => ⟨hk.1.1, ⟨hk.1.2.1, ⟨hk.1.2.2.1, ⟨hk.1.2.2.2.1, hk.1.2.2.2.2⟩⟩⟩⟩)⟩, ⟨by (with_reducible repeat (first | apply Kd.R_alloc | apply Kd.R_drewN | apply Kd.R_drew)); exact Kd.R_mono (Kd.R_far (p := ⟨gb376, 3, none⟩) (Kd.R_far (p := ⟨gb376, 2, none⟩) (Kd.R_far (p := ⟨gb376, 1, none⟩) (Kd.R_far (p := ⟨gb376, 0, none⟩) (Kd.R_types HO_341001.out BK376.out (by decide)) (fun _ hk => hk.2) (.int .i64 ((rd_T44 t369 x109_2).f0))) (fun _ hk => hk.2) (.int .i64 ((rd_T44 t369 x109_2).f1))) (fun _ hk => hk.2) (.int .i64 ((rd_T44 t369 x109_2).f2))) (fun _ hk => hk.2) (.int .i64 ((rd_T44 t369 x109_2).f3))) (fun _ hk => ⟨hk.1.1, ⟨hk.1.2.1, hk.1.2.2⟩⟩)⟩, ⟨by (with_reducible repeat (first | apply Kd.R_alloc | apply Kd.R_drewN | apply Kd.R_drew)); exact Kd.R_mono (Kd.R_far (p := ⟨gb376, 3, none⟩) (Kd.R_far (p := ⟨gb376, 2, none⟩) (Kd.R_far (p := ⟨gb376, 1, none⟩) (Kd.R_far (p := ⟨gb376, 0, none⟩) (Kd.R_types HO_341002.out BK376.out (by decide)) (fun _ hk => hk.2) (.int .i64 ((rd_T44 t369 x109_2).f0))) (fun _ hk => hk.2) (.int .i64 ((rd_T44 t369 x109_2).f1))) (fun _ hk => hk.2) (.int .i64 ((rd_T44 t369 x109_2).f2))) (fun _ hk => hk.2) (.int .i64 ((rd_T44 t369 x109_2).f3))) (fun _ hk => ⟨hk.1.1, ⟨hk.1.2.1, ⟨hk.1.2.2.1, ⟨hk.1.2.2.2.1, hk.1.2.2.2.2⟩⟩⟩⟩)⟩, ⟨by (with_reducible repeat (first | apply Kd.R_alloc | apply Kd.R_drewN | apply Kd.R_drew)); exact Kd.R_mono (Kd.R_far (p := ⟨gb376, 3, none⟩) (Kd.R_far (p := ⟨gb376, 2, none⟩) (Kd.R_far (p := ⟨gb376, 1, none⟩) (Kd.R_far (p := ⟨gb376, 0, none⟩) (Kd.R_types HO_356001.out BK376.out (by decide)) (fun _ hk => hk.2) (.int .i64 ((rd_T44 t369 x109_2).f0))) (fun _ hk => hk.2) (.int .i64 ((rd_T44 t369 x109_2).f1))) (fun _ hk => hk.2) (.int .i64 ((rd_T44 t369 x109_2).f2))) (fun _ hk => hk.2) (.int .i64 ((rd_T44 t369 x109_2).f3))) (fun _ hk => ⟨hk.1.1, ⟨hk.1.2.1, hk.1.2.2⟩⟩)⟩, ⟨by (with_reducible repeat (first | apply Kd.R_alloc | apply Kd.R_drewN | apply Kd.R_drew)); exact Kd.R_mono (Kd.R_far (p := ⟨gb376, 3, none⟩) (Kd.R_far (p := ⟨gb376, 2, none⟩) (Kd.R_far (p := ⟨gb376, 1, none⟩) (Kd.R_far (p := ⟨gb376, 0, none⟩) (Kd.R_types HO_356002.out BK376.out (by decide)) (fun _ hk => hk.2) (.int .i64 ((rd_T44 t369 x109_2).f0))) (fun _ hk => hk.2) (.int .i64 ((rd_T44 t369 x109_2).f1))) (fun _ hk => hk.2) (.int .i64 ((rd_T44 t369 x109_2).f2))) (fun _ hk => hk.2) (.int .i64 ((rd_T44 t369 x109_2).f3))) (fun _ hk => ⟨hk.1.1, ⟨hk.1.2.1, ⟨hk.1.2.2.1, ⟨hk.1.2.2.2.1, hk.1.2.2.2.2⟩⟩⟩⟩)⟩, ⟨by (with_reducible repeat (first | apply Kd.R_alloc | apply Kd.R_drewN | apply Kd.R_drew)); exact Kd.R_mono (Kd.R_far (p := ⟨gb376, 3, none⟩) (Kd.R_far (p := ⟨gb376, 2, none⟩) (Kd.R_far (p := ⟨gb376, 1, none⟩) (Kd.R_far (p := ⟨gb376, 0, none⟩) (Kd.R_types HO_374001.out BK376.out (by decide)) (fun _ hk => hk.2) (.int .i64 ((rd_T44 t369 x109_2).f0))) (fun _ hk => hk.2) (.int .i64 ((rd_T44 t369 x109_2).f1))) (fun _ hk => hk.2) (.int .i64 ((rd_T44 t369 x109_2).f2))) (fun _ hk => hk.2) (.int .i64 ((rd_T44 t369 x109_2).f3))) (fun _ hk => ⟨hk.1.1, ⟨hk.1.2.1, hk.1.2.2⟩⟩)⟩, ⟨by (with_reducible repeat (first | apply Kd.R_alloc | apply Kd.R_drewN | apply Kd.R_drew)); exact Kd.R_mono (Kd.R_far (p := ⟨gb376, 3, none⟩) (Kd.R_far (p := ⟨gb376, 2, none⟩) (Kd.R_far (p := ⟨gb376, 1, none⟩) (Kd.R_far (p := ⟨gb376, 0, none⟩) (Kd.R_types HO_374002.out BK376.out (by decide)) (fun _ hk => hk.2) (.int .i64 ((rd_T44 t369 x109_2).f0))) (fun _ hk => hk.2) (.int .i64 ((rd_T44 t369 x109_2).f1))) (fun _ hk => hk.2) (.int .i64 ((rd_T44 t369 x109_2).f2))) (fun _ hk => hk.2) (.int .i64 ((rd_T44 t369 x109_2).f3))) (fun _ hk => ⟨hk.1.1, ⟨hk.1.2.1, ⟨hk.1.2.2.1, ⟨hk.1.2.2.2.1, hk.1.2.2.2.2⟩⟩⟩⟩)⟩, ⟨Bz_ BK319⟩, ⟨Bz_ BK320⟩, ⟨Bz_ BK329⟩, ⟨Bz_ BK340⟩, ⟨Bz_ BK346⟩, ⟨Bz_ BK355⟩, ⟨Bz_ BK361⟩, ⟨Bz_ BK373⟩, ⟨L_⟩⟩
                    · rw [if_neg c203] at H
                      have c203b0 : (((rd_T44 t369 x109_2).f0) == a1_2) = false := beq_eq_false_iff_ne.mpr c203
                      have c203b1 : (((rd_T44 t369 x109_2).f0) != a1_2) = true := bne_iff_ne.mpr c203
                      have H' := Aside0.mk H
                      clear H
                      have p375 : 0 ≤ (x109_2 : Int) := of_decide_eq_true As_
                      have q375 : x109_2 < (t369.length : Int) := of_decide_eq_true As_
                      obtain ⟨ad375, e375, hx375_0, hx375_1, hx375_2, hx375_3⟩ := at_T44 (Kd.R_reads' HO_107.out).2.2 x109_2 p375 q375
                      cases e375
                      replace p375 := eq_true p375
                      replace q375 := eq_true q375
                      go_wp2_with (first | ((with_reducible refine gate_dst (N := 20) rfl ?_); refine box_ 20 44 #[.int .i64 0, .int .i64 0, .int .i64 0, .int .i64 0] ?_; intro gb376 hg w241 hbox hb; have BK376 := Aside0.mk (hbox); have GW376 := G_ hg HB; have GE376 := G_ hg HB; have NB319_376 := Nl_ hg BK319; have NB376_319 := Ng_ hg BK319; have NB320_376 := Nl_ hg BK320; have NB376_320 := Ng_ hg BK320; have NB329_376 := Nl_ hg BK329; have NB376_329 := Ng_ hg BK329; have NB340_376 := Nl_ hg BK340; have NB376_340 := Ng_ hg BK340; have NB346_376 := Nl_ hg BK346; have NB376_346 := Ng_ hg BK346; have NB355_376 := Nl_ hg BK355; have NB376_355 := Ng_ hg BK355; have NB361_376 := Nl_ hg BK361; have NB376_361 := Ng_ hg BK361; have NB373_376 := Nl_ hg BK373; have NB376_373 := Ng_ hg BK373; replace HO_107 := Aside0.mk (Kd.R_below (Kd.R_elderB (R_ HO_107) gb376 (Nat.le_of_eq hg.symm)) hb); replace HO_330001 := Rb_ HO_330001 hb; replace HO_330002 := Rb_ HO_330002 hb; replace HO_341001 := Rb_ HO_341001 hb; replace HO_341002 := Rb_ HO_341002 hb; replace HO_356001 := Rb_ HO_356001 hb; replace HO_356002 := Rb_ HO_356002 hb; replace HO_374001 := Rb_ HO_374001 hb; replace HO_374002 := Rb_ HO_374002 hb; replace BK319 := Bb_ BK319 hb; replace BK320 := Bb_ BK320 hb; replace BK329 := Bb_ BK329 hb; replace BK340 := Bb_ BK340 hb; replace BK346 := Bb_ BK346 hb; replace BK355 := Bb_ BK355 hb; replace BK361 := Bb_ BK361 hb; replace BK373 := Bb_ BK373 hb; replace HB := Ls_ HB hb; clear hb hbox hg; have hnb242 := NB376_319.out; have hnc242 := NB319_376.out; have hnb243 := NB376_320.out; have hnc243 := NB320_376.out; have hnb244 := NB376_329.out; have hnc244 := NB329_376.out; have hnb245 := NB376_340.out; have hnc245 := NB340_376.out; have hnb246 := NB376_346.out; have hnc246 := NB346_376.out; have hnb247 := NB376_355.out; have hnc247 := NB355_376.out; have hnb248 := NB376_361.out; have hnc248 := NB361_376.out; have hnb249 := NB376_373.out; have hnc249 := NB373_376.out; have hcz250_0 : w241.cell? ⟨gb376, 0, none⟩ = some (.int .i64 0) := (blk_cell BK376.out 0).trans rfl; have hcz250_1 : w241.cell? ⟨gb376, 1, none⟩ = some (.int .i64 0) := (blk_cell BK376.out 1).trans rfl; have hcz250_2 : w241.cell? ⟨gb376, 2, none⟩ = some (.int .i64 0) := (blk_cell BK376.out 2).trans rfl; have hcz250_3 : w241.cell? ⟨gb376, 3, none⟩ = some (.int .i64 0) := (blk_cell BK376.out 3).trans rfl; have hfz250_0 := blk_frozen BK376.out 0; have hfz250_1 := blk_frozen BK376.out 1; have hfz250_2 := blk_frozen BK376.out 2; have hfz250_3 := blk_frozen BK376.out 3; have hnb251 := NB320_319.out; have hnc251 := NB319_320.out; have hnb252 := NB320_329.out; have hnc252 := NB329_320.out; have hnb253 := NB320_340.out; have hnc253 := NB340_320.out; have hnb254 := NB320_346.out; have hnc254 := NB346_320.out; have hnb255 := NB320_355.out; have hnc255 := NB355_320.out; have hnb256 := NB320_361.out; have hnc256 := NB361_320.out; have hnb257 := NB320_373.out; have hnc257 := NB373_320.out; have hcz258_0 : w241.cell? ⟨gb320, 0, none⟩ = some (.int .i64 a1_0) := (blk_cell BK320.out 0).trans rfl; have hcz258_1 : w241.cell? ⟨gb320, 1, none⟩ = some (.int .i64 a1_1) := (blk_cell BK320.out 1).trans rfl; have hcz258_2 : w241.cell? ⟨gb320, 2, none⟩ = some (.int .i64 a1_2) := (blk_cell BK320.out 2).trans rfl; have hcz258_3 : w241.cell? ⟨gb320, 3, none⟩ = some (.int .i64 a1_3) := (blk_cell BK320.out 3).trans rfl; have hcz258_4 : w241.cell? ⟨gb320, 4, none⟩ = some (.int .i64 a1_4) := (blk_cell BK320.out 4).trans rfl; have hcz258_5 : w241.cell? ⟨gb320, 5, none⟩ = some (.int .i64 a1_5) := (blk_cell BK320.out 5).trans rfl; have hcz258_6 : w241.cell? ⟨gb320, 6, none⟩ = some (.bool a1_6) := (blk_cell BK320.out 6).trans rfl; have hfz258_0 := blk_frozen BK320.out 0; have hfz258_1 := blk_frozen BK320.out 1; have hfz258_2 := blk_frozen BK320.out 2; have hfz258_3 := blk_frozen BK320.out 3; have hfz258_4 := blk_frozen BK320.out 4; have hfz258_5 := blk_frozen BK320.out 5; have hfz258_6 := blk_frozen BK320.out 6))
                      go_roundg k2
                      case measure => have := HJ38.out; have := HK2.out; omega
                      case rel => exact ⟨(wrap64 (x109_2 + 1)), S_, H', ⟨by have := HJ38.out; have := HK2.out; omega⟩, ⟨by (with_reducible repeat (first | apply Kd.R_alloc | apply Kd.R_drewN | apply Kd.R_drew)); exact Kd.R_mono (Kd.R_far (p := ⟨gb376, 3, none⟩) (Kd.R_far (p := ⟨gb376, 2, none⟩) (Kd.R_far (p := ⟨gb376, 1, none⟩) (Kd.R_far (p := ⟨gb376, 0, none⟩) (Kd.R_mono HO_107.out (fun k_ hk => (⟨hk, hk.2⟩ : _ ∧ k_ ≠ gb376))) (fun _ hk => hk.2) (.int .i64 ((rd_T44 t369 x109_2).f0))) (fun _ hk => hk.2) (.int .i64 ((rd_T44 t369 x109_2).f1))) (fun _ hk => hk.2) (.int .i64 ((rd_T44 t369 x109_2).f2))) (fun _ hk => hk.2) (.int .i64 ((rd_T44 t369 x109_2).f3))) (fun _ hk => trivial)⟩, ⟨by (with_reducible repeat (first | apply Kd.R_alloc | apply Kd.R_drewN | apply Kd.R_drew)); exact Kd.R_mono (Kd.R_far (p := ⟨gb376, 3, none⟩) (Kd.R_far (p := ⟨gb376, 2, none⟩) (Kd.R_far (p := ⟨gb376, 1, none⟩) (Kd.R_far (p := ⟨gb376, 0, none⟩) (Kd.R_types HO_330001.out BK376.out (by decide)) (fun _ hk => hk.2) (.int .i64 ((rd_T44 t369 x109_2).f0))) (fun _ hk => hk.2) (.int .i64 ((rd_T44 t369 x109_2).f1))) (fun _ hk => hk.2) (.int .i64 ((rd_T44 t369 x109_2).f2))) (fun _ hk => hk.2) (.int .i64 ((rd_T44 t369 x109_2).f3))) (fun _ hk => ⟨hk.1.1, ⟨hk.1.2.1, hk.1.2.2⟩⟩)⟩, ⟨by (with_reducible repeat (first | apply Kd.R_alloc | apply Kd.R_drewN | apply Kd.R_drew)); exact Kd.R_mono (Kd.R_far (p := ⟨gb376, 3, none⟩) (Kd.R_far (p := ⟨gb376, 2, none⟩) (Kd.R_far (p := ⟨gb376, 1, none⟩) (Kd.R_far (p := ⟨gb376, 0, none⟩) (Kd.R_types HO_330002.out BK376.out (by decide)) (fun _ hk => hk.2) (.int .i64 ((rd_T44 t369 x109_2).f0))) (fun _ hk => hk.2) (.int .i64 ((rd_T44 t369 x109_2).f1))) (fun _ hk => hk.2) (.int .i64 ((rd_T44 t369 x109_2).f2))) (fun _ hk => hk.2) (.int .i64 ((rd_T44 t369 x109_2).f3))) (fun _ hk => ⟨hk.1.1, ⟨hk.1.2.1, ⟨hk.1.2.2.1, ⟨hk.1.2.2.2.1, hk.1.2.2.2.2⟩⟩⟩⟩)⟩, ⟨by (with_reducible repeat (first | apply Kd.R_alloc | apply Kd.R_drewN | apply Kd.R_drew)); exact Kd.R_mono (Kd.R_far (p := ⟨gb376, 3, none⟩) (Kd.R_far (p := ⟨gb376, 2, none⟩) (Kd.R_far (p := ⟨gb376, 1, none⟩) (Kd.R_far (p := ⟨gb376, 0, none⟩) (Kd.R_types HO_341001.out BK376.out (by decide)) (fun _ hk => hk.2) (.int .i64 ((rd_T44 t369 x109_2).f0))) (fun _ hk => hk.2) (.int .i64 ((rd_T44 t369 x109_2).f1))) (fun _ hk => hk.2) (.int .i64 ((rd_T44 t369 x109_2).f2))) (fun _ hk => hk.2) (.int .i64 ((rd_T44 t369 x109_2).f3))) (fun _ hk => ⟨hk.1.1, ⟨hk.1.2.1, hk.1.2.2⟩⟩)⟩, ⟨by (with_reducible repeat (first | apply Kd.R_alloc | apply Kd.R_drewN | apply Kd.R_drew)); exact Kd.R_mono (Kd.R_far (p := ⟨gb376, 3, none⟩) (Kd.R_far (p := ⟨gb376, 2, none⟩) (Kd.R_far (p := ⟨gb376, 1, none⟩) (Kd.R_far (p := ⟨gb376, 0, none⟩) (Kd.R_types HO_341002.out BK376.out (by decide)) (fun _ hk => hk.2) (.int .i64 ((rd_T44 t369 x109_2).f0))) (fun _ hk => hk.2) (.int .i64 ((rd_T44 t369 x109_2).f1))) (fun _ hk => hk.2) (.int .i64 ((rd_T44 t369 x109_2).f2))) (fun _ hk => hk.2) (.int .i64 ((rd_T44 t369 x109_2).f3))) (fun _ hk => ⟨hk.1.1, ⟨hk.1.2.1, ⟨hk.1.2.2.1, ⟨hk.1.2.2.2.1, hk.1.2.2.2.2⟩⟩⟩⟩)⟩, ⟨by (with_reducible repeat (first | apply Kd.R_alloc | apply Kd.R_drewN | apply Kd.R_drew)); exact Kd.R_mono (Kd.R_far (p := ⟨gb376, 3, none⟩) (Kd.R_far (p := ⟨gb376, 2, none⟩) (Kd.R_far (p := ⟨gb376, 1, none⟩) (Kd.R_far (p := ⟨gb376, 0, none⟩) (Kd.R_types HO_356001.out BK376.out (by decide)) (fun _ hk => hk.2) (.int .i64 ((rd_T44 t369 x109_2).f0))) (fun _ hk => hk.2) (.int .i64 ((rd_T44 t369 x109_2).f1))) (fun _ hk => hk.2) (.int .i64 ((rd_T44 t369 x109_2).f2))) (fun _ hk => hk.2) (.int .i64 ((rd_T44 t369 x109_2).f3))) (fun _ hk => ⟨hk.1.1, ⟨hk.1.2.1, hk.1.2.2⟩⟩)⟩, ⟨by (with_reducible repeat (first | apply Kd.R_alloc | apply Kd.R_drewN | apply Kd.R_drew)); exact Kd.R_mono (Kd.R_far (p := ⟨gb376, 3, none⟩) (Kd.R_far (p := ⟨gb376, 2, none⟩) (Kd.R_far (p := ⟨gb376, 1, none⟩) (Kd.R_far (p := ⟨gb376, 0, none⟩) (Kd.R_types HO_356002.out BK376.out (by decide)) (fun _ hk => hk.2) (.int .i64 ((rd_T44 t369 x109_2).f0))) (fun _ hk => hk.2) (.int .i64 ((rd_T44 t369 x109_2).f1))) (fun _ hk => hk.2) (.int .i64 ((rd_T44 t369 x109_2).f2))) (fun _ hk => hk.2) (.int .i64 ((rd_T44 t369 x109_2).f3))) (fun _ hk => ⟨hk.1.1, ⟨hk.1.2.1, ⟨hk.1.2.2.1, ⟨hk.1.2.2.2.1, hk.1.2.2.2.2⟩⟩⟩⟩)⟩, ⟨by (with_reducible repeat (first | apply Kd.R_alloc | apply Kd.R_drewN | apply Kd.R_drew)); exact Kd.R_mono (Kd.R_far (p := ⟨gb376, 3, none⟩) (Kd.R_far (p := ⟨gb376, 2, none⟩) (Kd.R_far (p := ⟨gb376, 1, none⟩) (Kd.R_far (p := ⟨gb376, 0, none⟩) (Kd.R_types HO_374001.out BK376.out (by decide)) (fun _ hk => hk.2) (.int .i64 ((rd_T44 t369 x109_2).f0))) (fun _ hk => hk.2) (.int .i64 ((rd_T44 t369 x109_2).f1))) (fun _ hk => hk.2) (.int .i64 ((rd_T44 t369 x109_2).f2))) (fun _ hk => hk.2) (.int .i64 ((rd_T44 t369 x109_2).f3))) (fun _ hk => ⟨hk.1.1, ⟨hk.1.2.1, hk.1.2.2⟩⟩)⟩, ⟨by (with_reducible repeat (first | apply Kd.R_alloc | apply Kd.R_drewN | apply Kd.R_drew)); exact Kd.R_mono (Kd.R_far (p := ⟨gb376, 3, none⟩) (Kd.R_far (p := ⟨gb376, 2, none⟩) (Kd.R_far (p := ⟨gb376, 1, none⟩) (Kd.R_far (p := ⟨gb376, 0, none⟩) (Kd.R_types HO_374002.out BK376.out (by decide)) (fun _ hk => hk.2) (.int .i64 ((rd_T44 t369 x109_2).f0))) (fun _ hk => hk.2) (.int .i64 ((rd_T44 t369 x109_2).f1))) (fun _ hk => hk.2) (.int .i64 ((rd_T44 t369 x109_2).f2))) (fun _ hk => hk.2) (.int .i64 ((rd_T44 t369 x109_2).f3))) (fun _ hk => ⟨hk.1.1, ⟨hk.1.2.1, ⟨hk.1.2.2.1, ⟨hk.1.2.2.2.1, hk.1.2.2.2.2⟩⟩⟩⟩)⟩, ⟨Bz_ BK319⟩, ⟨Bz_ BK320⟩, ⟨Bz_ BK329⟩, ⟨Bz_ BK340⟩, ⟨Bz_ BK346⟩, ⟨Bz_ BK355⟩, ⟨Bz_ BK361⟩, ⟨Bz_ BK373⟩, ⟨L_⟩⟩
                  · rw [if_neg c202] at H
                    exact absurd H (by simp)
                · rw [if_neg c201] at H
                  exact absurd H (by simp)
              · rw [if_neg c200] at H
                have c200b0 : decide (x109_2 < (t369.length : Int)) = false := decide_eq_false c200
                clear c200
                have H' := Aside0.mk H
                clear H
                go_wp2
                go_meet
                case rel => exact ⟨_, H', ⟨by have := HJ38.out; have := HK2.out; first | omega | exact Nat.le_refl _⟩, ⟨by (with_reducible repeat (first | apply Kd.R_alloc | apply Kd.R_drewN | apply Kd.R_drew)); exact Kd.R_mono HO_330001.out (fun _ hk => hk.1)⟩, ⟨by (with_reducible repeat (first | apply Kd.R_alloc | apply Kd.R_drewN | apply Kd.R_drew)); exact Kd.R_mono HO_330002.out (fun _ hk => hk.1)⟩, ⟨by (with_reducible repeat (first | apply Kd.R_alloc | apply Kd.R_drewN | apply Kd.R_drew)); exact Kd.R_mono HO_341001.out (fun _ hk => hk.1)⟩, ⟨by (with_reducible repeat (first | apply Kd.R_alloc | apply Kd.R_drewN | apply Kd.R_drew)); exact Kd.R_mono HO_341002.out (fun _ hk => hk.1)⟩, ⟨B_ BK320⟩, ⟨B_ BK329⟩, ⟨B_ BK340⟩, ⟨L_⟩⟩
      · rw [if_neg c34] at H
        have c34b0 : (t339 == 0) = false := beq_eq_false_iff_ne.mpr c34
        have c34b1 : (t339 != 0) = true := bne_iff_ne.mpr c34
        (first | rw [c34b0] | (simp only [i64_w, i32_w]; rw [c34b0]) | skip)
        have H' := Aside0.mk H
        clear H
        go_wp2
        go_meet
        case rel => exact ⟨_, H', ⟨by first | omega | exact Nat.le_refl _⟩, ⟨by (with_reducible repeat (first | apply Kd.R_alloc | apply Kd.R_drewN | apply Kd.R_drew)); exact Kd.R_mono (Kd.R_far (p := ⟨gb340, 2, none⟩) (Kd.R_far (p := ⟨gb340, 1, none⟩) (Kd.R_far (p := ⟨gb340, 0, none⟩) (Kd.R_types HO325.out BK340.out (by decide)) (fun _ hk => hk.2) (.int .i64 t332)) (fun _ hk => hk.2) (.slice Ao30 t333.length co30)) (fun _ hk => hk.2) (.slice Ao32 t336.length co32)) (fun _ hk => hk.1)⟩, ⟨by (with_reducible repeat (first | apply Kd.R_alloc | apply Kd.R_drewN | apply Kd.R_drew)); exact Kd.R_mono (Kd.R_far (p := ⟨gb340, 2, none⟩) (Kd.R_far (p := ⟨gb340, 1, none⟩) (Kd.R_far (p := ⟨gb340, 0, none⟩) (Kd.R_types HO328.out BK340.out (by decide)) (fun _ hk => hk.2) (.int .i64 t332)) (fun _ hk => hk.2) (.slice Ao30 t333.length co30)) (fun _ hk => hk.2) (.slice Ao32 t336.length co32)) (fun _ hk => hk.1)⟩, ⟨by (with_reducible repeat (first | apply Kd.R_alloc | apply Kd.R_drewN | apply Kd.R_drew)); exact Kd.R_mono (Kd.R_far (p := ⟨gb340, 2, none⟩) (Kd.R_far (p := ⟨gb340, 1, none⟩) (Kd.R_far (p := ⟨gb340, 0, none⟩) (Kd.R_types HO335.out BK340.out (by decide)) (fun _ hk => hk.2) (.int .i64 t332)) (fun _ hk => hk.2) (.slice Ao30 t333.length co30)) (fun _ hk => hk.2) (.slice Ao32 t336.length co32)) (fun _ hk => hk.1)⟩, ⟨by (with_reducible repeat (first | apply Kd.R_alloc | apply Kd.R_drewN | apply Kd.R_drew)); exact Kd.R_mono (Kd.R_far (p := ⟨gb340, 2, none⟩) (Kd.R_far (p := ⟨gb340, 1, none⟩) (Kd.R_far (p := ⟨gb340, 0, none⟩) (Kd.R_types HO338.out BK340.out (by decide)) (fun _ hk => hk.2) (.int .i64 t332)) (fun _ hk => hk.2) (.slice Ao30 t333.length co30)) (fun _ hk => hk.2) (.slice Ao32 t336.length co32)) (fun _ hk => hk.1)⟩, ⟨Bz_ BK320⟩, ⟨Bz_ BK329⟩, ⟨by (with_reducible repeat (first | refine blk_drewN ?_ _ | refine blk_drew ?_ | refine blk_alloc ?_ _)); refine blk_put (cs := #[.int .i64 t332, .slice Ao30 t333.length co30, .slice none 0 0]) ?_ 2 _ rfl; (with_reducible repeat (first | refine blk_drewN ?_ _ | refine blk_drew ?_ | refine blk_alloc ?_ _)); refine blk_put (cs := #[.int .i64 t332, .slice none 0 0, .slice none 0 0]) ?_ 1 _ rfl; (with_reducible repeat (first | refine blk_drewN ?_ _ | refine blk_drew ?_ | refine blk_alloc ?_ _)); refine blk_put (cs := #[.int .i64 0, .slice none 0 0, .slice none 0 0]) ?_ 0 _ rfl; (with_reducible repeat (first | refine blk_drewN ?_ _ | refine blk_drew ?_ | refine blk_alloc ?_ _)); exact BK340.out⟩, ⟨L_⟩⟩
     case rest =>
      clear HC10
      try clear c1; try clear c2; try clear p2; try clear c3; try clear p3; try clear q3; try clear hx3; try clear c4; try clear c5; try clear c6; try clear p6; try clear c7; try clear c8; try clear c9; try clear c10; try clear c11; try clear c12; try clear c13; try clear c14; try clear c15; try clear c16; try clear c17; try clear c18; try clear c19; try clear c20; try clear c21; try clear c22; try clear c23; try clear c24; try clear c25; try clear c34; try clear c34b0; try clear c34b1; try clear p37; try clear q37; try clear hx37; try clear c40; try clear c41; try clear c42; try clear c44; try clear c45; try clear c49; try clear c50; try clear c51; try clear c52; try clear c58; try clear c59; try clear c60; try clear c61; try clear c62; try clear p64; try clear c69; try clear c70; try clear c71; try clear c72; try clear c73; try clear c74; try clear c79; try clear c80; try clear c81; try clear c82; try clear c83; try clear c84; try clear c85; try clear c89; try clear c90; try clear c90b0; try clear c91; try clear c92; try clear c93; try clear c94; try clear c95; try clear c96; try clear c97; try clear c99; try clear c100; try clear c101; try clear c102; try clear c103; try clear c104; try clear c107; try clear c107b0; try clear c107b1; try clear c108; try clear c108b0; try clear c108b1; try clear c109; try clear c110; try clear c111; try clear c112; try clear c113; try clear c114; try clear c115; try clear c116; try clear c118; try clear c119; try clear c120; try clear c121; try clear c122; try clear c123; try clear c125; try clear c126; try clear c127; try clear c128; try clear c129; try clear c132; try clear c133; try clear c134; try clear c135; try clear c136; try clear c137; try clear c138; try clear c140; try clear c141; try clear c142; try clear c143; try clear c144; try clear c145; try clear c147; try clear c148; try clear c149; try clear c150; try clear c151; try clear c154; try clear c155; try clear c156; try clear c157; try clear c158; try clear c159; try clear c160; try clear c162; try clear c163; try clear c164; try clear c165; try clear c166; try clear c167; try clear c169; try clear c170; try clear c171; try clear c172; try clear c173; try clear c176; try clear c177; try clear c178; try clear c179; try clear c180; try clear c181; try clear c182; try clear c184; try clear c185; try clear c186; try clear c187; try clear c188; try clear c189; try clear c191; try clear c192; try clear c193; try clear c194; try clear c195; try clear c198; try clear c200; try clear c200b0; try clear c201; try clear c201b0; try clear c202; try clear c202b0; try clear c203; try clear c203b0; try clear c203b1; try clear c204; try clear c204b0; try clear c206; try clear c207; try clear c208; try clear c209; try clear c210; try clear c211; try clear c212; try clear c213; try clear c215; try clear c216; try clear c217; try clear c218; try clear c219; try clear c220; try clear c221; try clear c224; try clear c225; try clear c226; try clear c227; try clear c228; try clear c229; try clear c230; try clear c231; try clear c233; try clear c234; try clear c235; try clear c236; try clear c237; try clear c238; try clear c239; try clear c242; try clear c243; try clear c244; try clear c245; try clear c246; try clear c247; try clear c248; try clear c249; try clear c251; try clear c252; try clear c253; try clear c254; try clear c255; try clear c256; try clear c257; try clear hcz105_0; try clear hcz105_1; try clear hcz105_2; try clear hcz105_3; try clear hcz105_4; try clear hcz105_5; try clear hcz105_6; try clear hcz117_0; try clear hcz117_1; try clear hcz117_2; try clear hcz124_0; try clear hcz124_1; try clear hcz124_2; try clear hcz124_3; try clear hcz124_4; try clear hcz124_5; try clear hcz124_6; try clear hcz130_0; try clear hcz130_1; try clear hcz130_2; try clear hcz139_0; try clear hcz139_1; try clear hcz139_2; try clear hcz146_0; try clear hcz146_1; try clear hcz146_2; try clear hcz146_3; try clear hcz146_4; try clear hcz146_5; try clear hcz146_6; try clear hcz152_0; try clear hcz152_1; try clear hcz152_2; try clear hcz161_0; try clear hcz161_1; try clear hcz161_2; try clear hcz168_0; try clear hcz168_1; try clear hcz168_2; try clear hcz168_3; try clear hcz168_4; try clear hcz168_5; try clear hcz168_6; try clear hcz174_0; try clear hcz174_1; try clear hcz174_2; try clear hcz183_0; try clear hcz183_1; try clear hcz183_2; try clear hcz190_0; try clear hcz190_1; try clear hcz190_2; try clear hcz190_3; try clear hcz190_4; try clear hcz190_5; try clear hcz190_6; try clear hcz196_0; try clear hcz196_1; try clear hcz196_2; try clear hcz214_0; try clear hcz214_1; try clear hcz214_2; try clear hcz214_3; try clear hcz222_0; try clear hcz222_1; try clear hcz222_2; try clear hcz222_3; try clear hcz222_4; try clear hcz222_5; try clear hcz222_6; try clear hcz232_0; try clear hcz232_1; try clear hcz232_2; try clear hcz232_3; try clear hcz240_0; try clear hcz240_1; try clear hcz240_2; try clear hcz240_3; try clear hcz240_4; try clear hcz240_5; try clear hcz240_6; try clear hcz250_0; try clear hcz250_1; try clear hcz250_2; try clear hcz250_3; try clear hcz258_0; try clear hcz258_1; try clear hcz258_2; try clear hcz258_3; try clear hcz258_4; try clear hcz258_5; try clear hcz258_6; try clear hcz43_0; try clear hcz43_1; try clear hcz43_2; try clear hcz46_0; try clear hcz46_1; try clear hcz46_2; try clear hcz46_3; try clear hcz46_4; try clear hcz46_5; try clear hcz46_6; try clear hcz53_0; try clear hcz53_1; try clear hcz53_2; try clear hcz54_0; try clear hcz54_1; try clear hcz54_2; try clear hcz55_0; try clear hcz55_1; try clear hcz55_2; try clear hcz55_3; try clear hcz55_4; try clear hcz55_5; try clear hcz55_6; try clear hcz63_0; try clear hcz63_1; try clear hcz63_2; try clear hcz66_0; try clear hcz66_1; try clear hcz66_2; try clear hcz66_3; try clear hcz66_4; try clear hcz66_5; try clear hcz66_6; try clear hcz75_0; try clear hcz75_1; try clear hcz75_2; try clear hcz76_0; try clear hcz76_1; try clear hcz76_2; try clear hcz86_0; try clear hcz86_1; try clear hcz86_2; try clear hcz98_0; try clear hcz98_1; try clear hcz98_2; try clear hfz105_0; try clear hfz105_1; try clear hfz105_2; try clear hfz105_3; try clear hfz105_4; try clear hfz105_5; try clear hfz105_6; try clear hfz117_0; try clear hfz117_1; try clear hfz117_2; try clear hfz124_0; try clear hfz124_1; try clear hfz124_2; try clear hfz124_3; try clear hfz124_4; try clear hfz124_5; try clear hfz124_6; try clear hfz130_0; try clear hfz130_1; try clear hfz130_2; try clear hfz139_0; try clear hfz139_1; try clear hfz139_2; try clear hfz146_0; try clear hfz146_1; try clear hfz146_2; try clear hfz146_3; try clear hfz146_4; try clear hfz146_5; try clear hfz146_6; try clear hfz152_0; try clear hfz152_1; try clear hfz152_2; try clear hfz161_0; try clear hfz161_1; try clear hfz161_2; try clear hfz168_0; try clear hfz168_1; try clear hfz168_2; try clear hfz168_3; try clear hfz168_4; try clear hfz168_5; try clear hfz168_6; try clear hfz174_0; try clear hfz174_1; try clear hfz174_2; try clear hfz183_0; try clear hfz183_1; try clear hfz183_2; try clear hfz190_0; try clear hfz190_1; try clear hfz190_2; try clear hfz190_3; try clear hfz190_4; try clear hfz190_5; try clear hfz190_6; try clear hfz196_0; try clear hfz196_1; try clear hfz196_2; try clear hfz214_0; try clear hfz214_1; try clear hfz214_2; try clear hfz214_3; try clear hfz222_0; try clear hfz222_1; try clear hfz222_2; try clear hfz222_3; try clear hfz222_4; try clear hfz222_5; try clear hfz222_6; try clear hfz232_0; try clear hfz232_1; try clear hfz232_2; try clear hfz232_3; try clear hfz240_0; try clear hfz240_1; try clear hfz240_2; try clear hfz240_3; try clear hfz240_4; try clear hfz240_5; try clear hfz240_6; try clear hfz250_0; try clear hfz250_1; try clear hfz250_2; try clear hfz250_3; try clear hfz258_0; try clear hfz258_1; try clear hfz258_2; try clear hfz258_3; try clear hfz258_4; try clear hfz258_5; try clear hfz258_6; try clear hfz43_0; try clear hfz43_1; try clear hfz43_2; try clear hfz46_0; try clear hfz46_1; try clear hfz46_2; try clear hfz46_3; try clear hfz46_4; try clear hfz46_5; try clear hfz46_6; try clear hfz53_0; try clear hfz53_1; try clear hfz53_2; try clear hfz54_0; try clear hfz54_1; try clear hfz54_2; try clear hfz55_0; try clear hfz55_1; try clear hfz55_2; try clear hfz55_3; try clear hfz55_4; try clear hfz55_5; try clear hfz55_6; try clear hfz63_0; try clear hfz63_1; try clear hfz63_2; try clear hfz66_0; try clear hfz66_1; try clear hfz66_2; try clear hfz66_3; try clear hfz66_4; try clear hfz66_5; try clear hfz66_6; try clear hfz75_0; try clear hfz75_1; try clear hfz75_2; try clear hfz76_0; try clear hfz76_1; try clear hfz76_2; try clear hfz86_0; try clear hfz86_1; try clear hfz86_2; try clear hfz98_0; try clear hfz98_1; try clear hfz98_2; try clear hx375_0; try clear hx375_1; try clear hx375_2; try clear hx375_3; try clear p2; try clear p375; try clear q375
      obtain ⟨kq, HA, HJ9, HO_330001, HO_330002, HO_341001, HO_341002, BK320, BK329, BK340, HB⟩ := hcut
      cases kq with
      | zero => exact absurd HA.out (by simp [mainsheetlaw18_VtimerStops.j2])
      | succ kj9 =>
       have H := HA.out
       clear HA
       simp only [mainsheetlaw18_VtimerStops.j2] at H
       replace H := Option.bind_eq_some_iff.mp H
       obtain ⟨t377, A2590, H⟩ := H
       replace H : ((vtimer_Sleep.f t322 t323 t326 a1_1 t377).bind fun bt378 => (if bt378.2.2.2 = 0 then ((vtimer_Sleeps.f kj9 bt378.1 bt378.2.1 bt378.2.2.1 a1_1).bind fun bt387 => ((vtimer_Wake.f bt378.1 bt378.2.1 bt378.2.2.1 a1_1).bind fun bt389 => ((vtimer_Sleeps.f kj9 bt389.1 bt389.2.1 bt389.2.2.1 a1_1).bind fun bt398 => ((vtimer_Wake.f bt389.1 bt389.2.1 bt389.2.2.1 a1_1).bind fun bt400 => (if bt387.2 = true then ((mainsheetlaw18_Op_time.f a1_0 a1_1 a1_2 a1_3 a1_4 a1_5 a1_6 t322 t323 t326).bind fun t409 => (if bt387.1 = t409 then (if bt389.2.2.2 = 0 then (if bt398.2 = true then (some false) else (some (bt400.2.2.2 == 4))) else (some false)) else (some false))) else (some false)))))) else (some ((bt378.2.2.1.length : Int) == 0)))) = some r := H
       have A259 := Aside0.mk A2590
       clear A2590
       replace H := Option.bind_eq_some_iff.mp H
       obtain ⟨⟨t378, t379, t382, t385⟩, A2600, H⟩ := H
       replace H : (if t385 = 0 then ((vtimer_Sleeps.f kj9 t378 t379 t382 a1_1).bind fun bt387 => ((vtimer_Wake.f t378 t379 t382 a1_1).bind fun bt389 => ((vtimer_Sleeps.f kj9 bt389.1 bt389.2.1 bt389.2.2.1 a1_1).bind fun bt398 => ((vtimer_Wake.f bt389.1 bt389.2.1 bt389.2.2.1 a1_1).bind fun bt400 => (if bt387.2 = true then ((mainsheetlaw18_Op_time.f a1_0 a1_1 a1_2 a1_3 a1_4 a1_5 a1_6 t322 t323 t326).bind fun t409 => (if bt387.1 = t409 then (if bt389.2.2.2 = 0 then (if bt398.2 = true then (some false) else (some (bt400.2.2.2 == 4))) else (some false)) else (some false))) else (some false)))))) else (some ((t382.length : Int) == 0))) = some r := H
       have A260 := Aside0.mk A2600
       clear A2600
       by_cases c261 : t385 = 0
       · rw [if_pos c261] at H
         have c261b0 : (t385 == 0) = true := beq_iff_eq.mpr c261
         have c261b1 : (t385 != 0) = false := bne_eq_false_iff_eq.mpr c261
         clear c261
         replace H := Option.bind_eq_some_iff.mp H
         obtain ⟨⟨t387, t388⟩, A2620, H⟩ := H
         replace H : ((vtimer_Wake.f t378 t379 t382 a1_1).bind fun bt389 => ((vtimer_Sleeps.f kj9 bt389.1 bt389.2.1 bt389.2.2.1 a1_1).bind fun bt398 => ((vtimer_Wake.f bt389.1 bt389.2.1 bt389.2.2.1 a1_1).bind fun bt400 => (if t388 = true then ((mainsheetlaw18_Op_time.f a1_0 a1_1 a1_2 a1_3 a1_4 a1_5 a1_6 t322 t323 t326).bind fun t409 => (if t387 = t409 then (if bt389.2.2.2 = 0 then (if bt398.2 = true then (some false) else (some (bt400.2.2.2 == 4))) else (some false)) else (some false))) else (some false))))) = some r := H
         have A262 := Aside0.mk A2620
         clear A2620
         replace H := Option.bind_eq_some_iff.mp H
         obtain ⟨⟨t389, t390, t393, t396⟩, A2630, H⟩ := H
         replace H : ((vtimer_Sleeps.f kj9 t389 t390 t393 a1_1).bind fun bt398 => ((vtimer_Wake.f t389 t390 t393 a1_1).bind fun bt400 => (if t388 = true then ((mainsheetlaw18_Op_time.f a1_0 a1_1 a1_2 a1_3 a1_4 a1_5 a1_6 t322 t323 t326).bind fun t409 => (if t387 = t409 then (if t396 = 0 then (if bt398.2 = true then (some false) else (some (bt400.2.2.2 == 4))) else (some false)) else (some false))) else (some false)))) = some r := H
         have A263 := Aside0.mk A2630
         clear A2630
         replace H := Option.bind_eq_some_iff.mp H
         obtain ⟨⟨t398, t399⟩, A2640, H⟩ := H
         replace H : ((vtimer_Wake.f t389 t390 t393 a1_1).bind fun bt400 => (if t388 = true then ((mainsheetlaw18_Op_time.f a1_0 a1_1 a1_2 a1_3 a1_4 a1_5 a1_6 t322 t323 t326).bind fun t409 => (if t387 = t409 then (if t396 = 0 then (if t399 = true then (some false) else (some (bt400.2.2.2 == 4))) else (some false)) else (some false))) else (some false))) = some r := H
         have A264 := Aside0.mk A2640
         clear A2640
         replace H := Option.bind_eq_some_iff.mp H
         obtain ⟨⟨t400, t401, t404, t407⟩, A2650, H⟩ := H
         replace H : (if t388 = true then ((mainsheetlaw18_Op_time.f a1_0 a1_1 a1_2 a1_3 a1_4 a1_5 a1_6 t322 t323 t326).bind fun t409 => (if t387 = t409 then (if t396 = 0 then (if t399 = true then (some false) else (some (t407 == 4))) else (some false)) else (some false))) else (some false)) = some r := H
         have A265 := Aside0.mk A2650
         clear A2650
         by_cases c266 : t388 = true
         · subst c266
           have H1 : ((mainsheetlaw18_Op_time.f a1_0 a1_1 a1_2 a1_3 a1_4 a1_5 a1_6 t322 t323 t326).bind fun t409 => (if t387 = t409 then (if t396 = 0 then (if t399 = true then (some false) else (some (t407 == 4))) else (some false)) else (some false))) = some r := by rw [if_pos rfl] at H; exact H
           clear H
           have H := H1
           clear H1
           replace H := Option.bind_eq_some_iff.mp H
           obtain ⟨t409, A2670, H⟩ := H
           replace H : (if t387 = t409 then (if t396 = 0 then (if t399 = true then (some false) else (some (t407 == 4))) else (some false)) else (some false)) = some r := H
           have A267 := Aside0.mk A2670
           clear A2670
           by_cases c268 : t387 = t409
           · rw [if_pos c268] at H
             have c268b0 : (t387 == t409) = true := beq_iff_eq.mpr c268
             have c268b1 : (t387 != t409) = false := bne_eq_false_iff_eq.mpr c268
             clear c268
             by_cases c269 : t396 = 0
             · rw [if_pos c269] at H
               have c269b0 : (t396 == 0) = true := beq_iff_eq.mpr c269
               have c269b1 : (t396 != 0) = false := bne_eq_false_iff_eq.mpr c269
               clear c269
               by_cases c270 : t399 = true
               · subst c270
                 have H1 : (some false) = some r := by rw [if_pos rfl] at H; exact H
                 clear H
                 have H := H1
                 clear H1
                 exact absurd ((Option.some.inj H).trans hr_) (by decide) -- leaf 3
               · replace c270 := Bool.eq_false_iff.mpr c270
                 subst c270
                 have H1 : (some (t407 == 4)) = some r := by rw [if_neg (show ¬ (false = true) by decide)] at H; exact H
                 clear H
                 have H := H1
                 clear H1
                 obtain rfl := Option.some.inj H
                 try go_wp2
                 have n0_ := Aside0.mk (Kd.R_drew HO_330001.out)
                 have n1_ := Aside0.mk (Kd.R_drew HO_330002.out)
                 have n2_ := Aside0.mk (Kd.R_drew HO_341001.out)
                 have n3_ := Aside0.mk (Kd.R_drew HO_341002.out)
                 have n4_ := Aside0.mk (blk_drew BK320.out)
                 have n5_ := Aside0.mk (blk_drew BK329.out)
                 have n6_ := Aside0.mk (blk_drew BK340.out)
                 have n7_ := Aside0.mk (below_drew1 HB.out)
                 clear HO_330001
                 clear HO_330002
                 clear HO_341001
                 clear HO_341002
                 clear BK320
                 clear BK329
                 clear BK340
                 clear HB
                 have HO_330001 := n0_
                 have HO_330002 := n1_
                 have HO_341001 := n2_
                 have HO_341002 := n3_
                 have BK320 := n4_
                 have BK329 := n5_
                 have BK340 := n6_
                 have HB := n7_
                 clear n0_ n1_ n2_ n3_ n4_ n5_ n6_ n7_
                 refine st_ 13 (fun w' => w'.cell? ⟨gb329, 0, none⟩ = some (.int .i64 t322) ∧ w'.cell? ⟨gb329, 1, none⟩ = some (.slice Ao21 t323.length co21) ∧ w'.cell? ⟨gb329, 2, none⟩ = some (.slice Ao22 t326.length co22) ∧ w'.cell? ⟨gb320, 0, none⟩ = some (.int .i64 a1_0) ∧ w'.cell? ⟨gb320, 1, none⟩ = some (.int .i64 a1_1) ∧ w'.cell? ⟨gb320, 2, none⟩ = some (.int .i64 a1_2) ∧ w'.cell? ⟨gb320, 3, none⟩ = some (.int .i64 a1_3) ∧ w'.cell? ⟨gb320, 4, none⟩ = some (.int .i64 a1_4) ∧ w'.cell? ⟨gb320, 5, none⟩ = some (.int .i64 a1_5) ∧ w'.cell? ⟨gb320, 6, none⟩ = some (.bool a1_6)) [] ⟨(blk_cell BK329.out 0).trans rfl, (blk_cell BK329.out 1).trans rfl, (blk_cell BK329.out 2).trans rfl, (blk_cell BK320.out 0).trans rfl, (blk_cell BK320.out 1).trans rfl, (blk_cell BK320.out 2).trans rfl, (blk_cell BK320.out 3).trans rfl, (blk_cell BK320.out 4).trans rfl, (blk_cell BK320.out 5).trans rfl, (blk_cell BK320.out 6).trans rfl⟩ (fun hHeld => ?_); refine with_tabW mainsheetlaw18_VtimerStops.tab20 mainsheetlaw18_VtimerStops.bits20 (fun HT_ HW_ => ?_)
                 generalize wc.drew = w318 at HO_330001 HO_330002 HO_341001 HO_341002 BK320 BK329 BK340 HB hHeld ⊢
                 refine pu_ 1 127 HT_ ?_
                 refine ta_ 0 126 HT_ HW_ rfl rfl hHeld (by rintro w' ⟨s0, s1, s2, s3, s4, s5, s6, s7, s8, s9⟩; go_simp; with_reducible rfl) ?_
                 refine ta_ 2 128 HT_ HW_ rfl rfl hHeld (by rintro w' ⟨s0, s1, s2, s3, s4, s5, s6, s7, s8, s9⟩; go_simp; with_reducible rfl) ?_
                 refine ta_ 3 129 HT_ HW_ rfl rfl hHeld (by rintro w' ⟨s0, s1, s2, s3, s4, s5, s6, s7, s8, s9⟩; go_simp; with_reducible rfl) ?_
                 refine ta_ 4 130 HT_ HW_ rfl rfl hHeld (by rintro w' ⟨s0, s1, s2, s3, s4, s5, s6, s7, s8, s9⟩; go_simp; with_reducible rfl) ?_
                 refine join_ (σ := Value × Value × Nat) 2 #[true, true, true, true, true, true, true, true, true, true, true, false, false] (fun s_ => [(131, .int .i64 t377), (132, .tuple #[.agg #[.int .i64 t378, s_.1, s_.2.1], .int .i64 t385]), (21, .pointer (some ⟨s_.2.2, 0, none⟩)), (125, .tuple #[.agg #[.int .i64 t378, s_.1, s_.2.1], .int .i64 t385]), (133, .agg #[.int .i64 t378, s_.1, s_.2.1]), (134, .int .i64 t385)]) (fun s_ w' => (w'.cell? ⟨gb329, 0, none⟩ = some (.int .i64 t322) ∧ w'.cell? ⟨gb329, 1, none⟩ = some (.slice Ao21 t323.length co21) ∧ w'.cell? ⟨gb329, 2, none⟩ = some (.slice Ao22 t326.length co22) ∧ w'.cell? ⟨gb320, 0, none⟩ = some (.int .i64 a1_0) ∧ w'.cell? ⟨gb320, 1, none⟩ = some (.int .i64 a1_1) ∧ w'.cell? ⟨gb320, 2, none⟩ = some (.int .i64 a1_2) ∧ w'.cell? ⟨gb320, 3, none⟩ = some (.int .i64 a1_3) ∧ w'.cell? ⟨gb320, 4, none⟩ = some (.int .i64 a1_4) ∧ w'.cell? ⟨gb320, 5, none⟩ = some (.int .i64 a1_5) ∧ w'.cell? ⟨gb320, 6, none⟩ = some (.bool a1_6)) ∧ (Kd.R k88 88 w' w.heap.size (fun k_ => some k_ ≠ (.slice Ao21 t323.length co21 : Value).ownBlock ∧ some k_ ≠ (.slice Ao30 t333.length co30 : Value).ownBlock) s_.1 t379) ∧ (Kd.R k47 47 w' w.heap.size (fun k_ => some k_ ≠ (.slice Ao22 t326.length co22 : Value).ownBlock ∧ some k_ ≠ (.slice Ao32 t336.length co32 : Value).ownBlock) s_.2.1 t382) ∧ (Kd.R k88 88 w' w.heap.size (fun k_ => some k_ ≠ (s_.1 : Value).ownBlock ∧ some k_ ≠ (.slice Ao30 t333.length co30 : Value).ownBlock) (.slice Ao21 t323.length co21) t323) ∧ (Kd.R k47 47 w' w.heap.size (fun k_ => some k_ ≠ (s_.2.1 : Value).ownBlock ∧ some k_ ≠ (.slice Ao32 t336.length co32 : Value).ownBlock) (.slice Ao22 t326.length co22) t326) ∧ (Kd.R k88 88 w' w.heap.size (fun k_ => some k_ ≠ (s_.1 : Value).ownBlock ∧ some k_ ≠ (.slice Ao21 t323.length co21 : Value).ownBlock) (.slice Ao30 t333.length co30) t333) ∧ (Kd.R k47 47 w' w.heap.size (fun k_ => some k_ ≠ (s_.2.1 : Value).ownBlock ∧ some k_ ≠ (.slice Ao22 t326.length co22 : Value).ownBlock) (.slice Ao32 t336.length co32) t336) ∧ (w'.heap[gb320]? = some (.cells #[.int .i64 a1_0, .int .i64 a1_1, .int .i64 a1_2, .int .i64 a1_3, .int .i64 a1_4, .int .i64 a1_5, .bool a1_6] 58 (0, 0))) ∧ (w'.heap[gb329]? = some (.cells #[.int .i64 t322, .slice Ao21 t323.length co21, .slice Ao22 t326.length co22] 27 (0, 0))) ∧ (w'.heap[gb340]? = some (.cells #[.int .i64 t332, .slice Ao30 t333.length co30, .slice Ao32 t336.length co32] 27 (0, 0))) ∧ (w'.heap[s_.2.2]? = some (.cells #[.int .i64 0, .slice none 0 0, .slice none 0 0] 27 (0, 0))) ∧ (w.heap.size ≤ s_.2.2) ∧ (w.heap.size ≤ s_.2.2) ∧ (gb320 ≠ s_.2.2) ∧ (s_.2.2 ≠ gb320) ∧ (gb329 ≠ s_.2.2) ∧ (s_.2.2 ≠ gb329) ∧ (gb340 ≠ s_.2.2) ∧ (s_.2.2 ≠ gb340) ∧ (Below w.heap.size w w')) ?_ ?_
                 rotate_left
                 · intro hCont
                   refine two_ (i := 5) (j := 10) (Ni := some 131) (Nj := some 21) #[true, true, true, true, true, true, false, false, false, false, false, false, false] #[true, true, true, true, true, false, false, false, false, false, true, false, false] rfl rfl rfl rfl (two_of HT_.out (by kernel_rfl)) (by decide) (by decide) (fun K hK => ?_) (fun K hK => ?_)
                   · skip
                     refine goes_ Try.func22 (by kernel_rfl) rfl #[.agg #[.int .i64 a1_0, .int .i64 a1_1, .int .i64 a1_2, .int .i64 a1_3, .int .i64 a1_4, .int .i64 a1_5, .bool a1_6], .agg #[.int .i64 t322, .slice Ao21 t323.length co21, .slice Ao22 t326.length co22]] (by rfl) rfl rfl M_ ?_
                     with_reducible refine (mainsheetlaw18_Op_time.calls a1_0 a1_1 a1_2 a1_3 a1_4 a1_5 a1_6 t322 _ _ t323 _ _ t326 t377 _ ?side1 ?side2 ?side3 ?side4 A259.out).mono ?_
                     (case side1 => exact Rs_ HO_330001)
                     (case side2 => exact (Kd.R_reads' HO_330001.out).2.1)
                     (case side3 => exact Rs_ HO_330002)
                     (case side4 => exact (Kd.R_reads' HO_330002.out).2.1)
                     rintro e w319 ⟨rfl, hb⟩
                     refine ⟨_, rfl, ?_⟩
                     have n0_ := Rb_ HO_330001 hb
                     have n1_ := Rb_ HO_330002 hb
                     have n2_ := Rb_ HO_341001 hb
                     have n3_ := Rb_ HO_341002 hb
                     have n4_ := Bb_ BK320 hb
                     have n5_ := Bb_ BK329 hb
                     have n6_ := Bb_ BK340 hb
                     have n7_ := Ls_ HB hb
                     clear HO_330001
                     clear HO_330002
                     clear HO_341001
                     clear HO_341002
                     clear BK320
                     clear BK329
                     clear BK340
                     clear HB
                     have HO_330001 := n0_
                     have HO_330002 := n1_
                     have HO_341001 := n2_
                     have HO_341002 := n3_
                     have BK320 := n4_
                     have BK329 := n5_
                     have BK340 := n6_
                     have HB := n7_
                     clear n0_ n1_ n2_ n3_ n4_ n5_ n6_ n7_
                     (try clear hb)
                     (try clear hb2)
                     (try clear hk)
                     (try clear hi)
                     refine hK.out _ _ ⟨(blk_cell BK329.out 0).trans rfl, (blk_cell BK329.out 1).trans rfl, (blk_cell BK329.out 2).trans rfl, (blk_cell BK320.out 0).trans rfl, (blk_cell BK320.out 1).trans rfl, (blk_cell BK320.out 2).trans rfl, (blk_cell BK320.out 3).trans rfl, (blk_cell BK320.out 4).trans rfl, (blk_cell BK320.out 5).trans rfl, (blk_cell BK320.out 6).trans rfl⟩ (fun hHeld => ?_)
                     clear hK K
                     refine nm_ 131 ?_
                     refine two_ (i := 6) (j := 10) (Ni := some 132) (Nj := some 21) #[true, true, true, true, true, true, true, false, false, false, false, false, false] #[true, true, true, true, true, true, false, false, false, false, true, false, false] rfl rfl rfl rfl (two_of HT_.out (by kernel_rfl)) (by decide) (by decide) (fun K hK => ?_) (fun K hK => ?_)
                     · skip
                       refine goes_ Try.func24 (by kernel_rfl) rfl #[.agg #[.int .i64 t322, .slice Ao21 t323.length co21, .slice Ao22 t326.length co22], .int .i64 a1_1, .int .i64 t377] (by rfl) rfl rfl M_ ?_
                       with_reducible refine (vtimer_Sleep.calls t322 _ _ t323 _ _ t326 a1_1 t377 t378 t379 t382 t385 _ ?side1 ?side2 ?side3 ?side4 A260.out).mono ?_
                       (case side1 => exact Rs_ HO_330001)
                       (case side2 => exact (Kd.R_reads' HO_330001.out).2.1)
                       (case side3 => exact Rs_ HO_330002)
                       (case side4 => exact (Kd.R_reads' HO_330002.out).2.1)
                       rintro e w320 ⟨v380, v383, rfl, ho0, ho1, hb⟩
                       refine ⟨_, rfl, ?_⟩
                       have n0_ := Aside0.mk (Kd.R_elder' (R_ HO_330001) (Kd.R_base ho0) hb)
                       have n1_ := Aside0.mk (Kd.R_elder' (R_ HO_330002) (Kd.R_base ho1) hb)
                       have n2_ := Aside0.mk (Kd.R_elder' (R_ HO_341001) (Kd.R_base ho0) hb)
                       have n3_ := Aside0.mk (Kd.R_elder' (R_ HO_341002) (Kd.R_base ho1) hb)
                       have n4_ := Aside0.mk (Kd.R_lower (Kd.R_new' (Kd.R_new' ho0 (Kd.R_lt (R_ HO_330001))) (Kd.R_lt (R_ HO_341001))) (below_size L_))
                       have n5_ := Aside0.mk (Kd.R_lower (Kd.R_new' (Kd.R_new' ho1 (Kd.R_lt (R_ HO_330002))) (Kd.R_lt (R_ HO_341002))) (below_size L_))
                       have n6_ := Bb_ BK320 hb
                       have n7_ := Bb_ BK329 hb
                       have n8_ := Bb_ BK340 hb
                       have n9_ := Ls_ HB hb
                       clear HO_330001
                       clear HO_330002
                       clear HO_341001
                       clear HO_341002
                       clear BK320
                       clear BK329
                       clear BK340
                       clear HB
                       have HO_330001 := n0_
                       have HO_330002 := n1_
                       have HO_341001 := n2_
                       have HO_341002 := n3_
                       have HO381 := n4_
                       have HO384 := n5_
                       have BK320 := n6_
                       have BK329 := n7_
                       have BK340 := n8_
                       have HB := n9_
                       clear n0_ n1_ n2_ n3_ n4_ n5_ n6_ n7_ n8_ n9_
                       (try clear hb)
                       (try clear hb2)
                       (try clear hk)
                       (try clear hi)
                       (try clear ho0)
                       (try clear ho1)
                       refine hK.out _ _ ⟨(blk_cell BK329.out 0).trans rfl, (blk_cell BK329.out 1).trans rfl, (blk_cell BK329.out 2).trans rfl, (blk_cell BK320.out 0).trans rfl, (blk_cell BK320.out 1).trans rfl, (blk_cell BK320.out 2).trans rfl, (blk_cell BK320.out 3).trans rfl, (blk_cell BK320.out 4).trans rfl, (blk_cell BK320.out 5).trans rfl, (blk_cell BK320.out 6).trans rfl⟩ (fun hHeld => ?_)
                       clear hK K
                       refine nm_ 132 ?_
                       refine pu_ 7 125 HT_ ?_
                       refine pu_ 8 133 HT_ ?_
                       refine pu_ 9 134 HT_ ?_
                       refine on_ 10 21 HT_ rfl rfl (fun K hK => ?_)
                       refine box_step ?hg (N := 21) ?hd (cs := #[.int .i64 0, .slice none 0 0, .slice none 0 0]) (t := 27) ?hr ?_; (case hd => rfl); (case hg => rfl); (case hr => first | (go_simp; done) | (go_simp; rfl))
                       intro gb386 hg w321 hbox hb
                       have n0_ := Rb_ HO_330001 hb
                       have n1_ := Rb_ HO_330002 hb
                       have n2_ := Rb_ HO_341001 hb
                       have n3_ := Rb_ HO_341002 hb
                       have n4_ := Rb_ HO381 hb
                       have n5_ := Rb_ HO384 hb
                       have n6_ := Bb_ BK320 hb
                       have n7_ := Bb_ BK329 hb
                       have n8_ := Bb_ BK340 hb
                       have n9_ := Ls_ HB hb
                       have n10_ := Aside0.mk (hbox)
                       have n11_ := G_ hg HB
                       have n12_ := G_ hg HB
                       have n13_ := Nl_ hg BK320
                       have n14_ := Ng_ hg BK320
                       have n15_ := Nl_ hg BK329
                       have n16_ := Ng_ hg BK329
                       have n17_ := Nl_ hg BK340
                       have n18_ := Ng_ hg BK340
                       clear HO_330001
                       clear HO_330002
                       clear HO_341001
                       clear HO_341002
                       clear HO381
                       clear HO384
                       clear BK320
                       clear BK329
                       clear BK340
                       clear HB
                       have HO_330001 := n0_
                       have HO_330002 := n1_
                       have HO_341001 := n2_
                       have HO_341002 := n3_
                       have HO381 := n4_
                       have HO384 := n5_
                       have BK320 := n6_
                       have BK329 := n7_
                       have BK340 := n8_
                       have HB := n9_
                       have BK386 := n10_
                       have GW386 := n11_
                       have GE386 := n12_
                       have NB320_386 := n13_
                       have NB386_320 := n14_
                       have NB329_386 := n15_
                       have NB386_329 := n16_
                       have NB340_386 := n17_
                       have NB386_340 := n18_
                       clear n0_ n1_ n2_ n3_ n4_ n5_ n6_ n7_ n8_ n9_ n10_ n11_ n12_ n13_ n14_ n15_ n16_ n17_ n18_
                       clear hb hbox hg
                       refine hK.out _ _ ⟨(blk_cell BK329.out 0).trans rfl, (blk_cell BK329.out 1).trans rfl, (blk_cell BK329.out 2).trans rfl, (blk_cell BK320.out 0).trans rfl, (blk_cell BK320.out 1).trans rfl, (blk_cell BK320.out 2).trans rfl, (blk_cell BK320.out 3).trans rfl, (blk_cell BK320.out 4).trans rfl, (blk_cell BK320.out 5).trans rfl, (blk_cell BK320.out 6).trans rfl⟩ (fun hHeld => ?_)
                       clear hK K
                       refine nm_ 21 ?_
                       exact norm_ (by simp only [putAll, Act.put, List.setIfInBounds_toArray, List.set_cons_zero, List.set_cons_succ]) (hCont (v380, v383, gb386) _ ⟨hHeld, (by (with_reducible repeat (first | apply Kd.R_alloc | apply Kd.R_drewN | apply Kd.R_drew)); exact Kd.R_mono HO381.out (fun _ hk => ⟨hk.1.2, hk.2⟩)), (by (with_reducible repeat (first | apply Kd.R_alloc | apply Kd.R_drewN | apply Kd.R_drew)); exact Kd.R_mono HO384.out (fun _ hk => ⟨hk.1.2, hk.2⟩)), (by (with_reducible repeat (first | apply Kd.R_alloc | apply Kd.R_drewN | apply Kd.R_drew)); exact Kd.R_mono HO_330001.out (fun _ hk => ⟨hk.2, hk.1⟩)), (by (with_reducible repeat (first | apply Kd.R_alloc | apply Kd.R_drewN | apply Kd.R_drew)); exact Kd.R_mono HO_330002.out (fun _ hk => ⟨hk.2, hk.1⟩)), (by (with_reducible repeat (first | apply Kd.R_alloc | apply Kd.R_drewN | apply Kd.R_drew)); exact Kd.R_mono HO_341001.out (fun _ hk => ⟨hk.2, hk.1⟩)), (by (with_reducible repeat (first | apply Kd.R_alloc | apply Kd.R_drewN | apply Kd.R_drew)); exact Kd.R_mono HO_341002.out (fun _ hk => ⟨hk.2, hk.1⟩)), (B_ BK320), (B_ BK329), (B_ BK340), (B_ BK386), GW386.out, GE386.out, NB320_386.out, NB386_320.out, NB329_386.out, NB386_329.out, NB340_386.out, NB386_340.out, L_⟩)
                     · skip
                       refine box_step ?hg (N := 21) ?hd (cs := #[.int .i64 0, .slice none 0 0, .slice none 0 0]) (t := 27) ?hr ?_; (case hd => rfl); (case hg => rfl); (case hr => first | (go_simp; done) | (go_simp; rfl))
                       intro gb386 hg w320 hbox hb
                       have n0_ := Rb_ HO_330001 hb
                       have n1_ := Rb_ HO_330002 hb
                       have n2_ := Rb_ HO_341001 hb
                       have n3_ := Rb_ HO_341002 hb
                       have n4_ := Bb_ BK320 hb
                       have n5_ := Bb_ BK329 hb
                       have n6_ := Bb_ BK340 hb
                       have n7_ := Ls_ HB hb
                       have n8_ := Aside0.mk (hbox)
                       have n9_ := G_ hg HB
                       have n10_ := G_ hg HB
                       have n11_ := Nl_ hg BK320
                       have n12_ := Ng_ hg BK320
                       have n13_ := Nl_ hg BK329
                       have n14_ := Ng_ hg BK329
                       have n15_ := Nl_ hg BK340
                       have n16_ := Ng_ hg BK340
                       clear HO_330001
                       clear HO_330002
                       clear HO_341001
                       clear HO_341002
                       clear BK320
                       clear BK329
                       clear BK340
                       clear HB
                       have HO_330001 := n0_
                       have HO_330002 := n1_
                       have HO_341001 := n2_
                       have HO_341002 := n3_
                       have BK320 := n4_
                       have BK329 := n5_
                       have BK340 := n6_
                       have HB := n7_
                       have BK386 := n8_
                       have GW386 := n9_
                       have GE386 := n10_
                       have NB320_386 := n11_
                       have NB386_320 := n12_
                       have NB329_386 := n13_
                       have NB386_329 := n14_
                       have NB340_386 := n15_
                       have NB386_340 := n16_
                       clear n0_ n1_ n2_ n3_ n4_ n5_ n6_ n7_ n8_ n9_ n10_ n11_ n12_ n13_ n14_ n15_ n16_
                       clear hb hbox hg
                       refine hK.out _ _ ⟨(blk_cell BK329.out 0).trans rfl, (blk_cell BK329.out 1).trans rfl, (blk_cell BK329.out 2).trans rfl, (blk_cell BK320.out 0).trans rfl, (blk_cell BK320.out 1).trans rfl, (blk_cell BK320.out 2).trans rfl, (blk_cell BK320.out 3).trans rfl, (blk_cell BK320.out 4).trans rfl, (blk_cell BK320.out 5).trans rfl, (blk_cell BK320.out 6).trans rfl⟩ (fun hHeld => ?_)
                       clear hK K
                       refine nm_ 21 ?_
                       refine on_ 6 132 HT_ rfl rfl (fun K hK => ?_)
                       refine goes_ Try.func24 (by kernel_rfl) rfl #[.agg #[.int .i64 t322, .slice Ao21 t323.length co21, .slice Ao22 t326.length co22], .int .i64 a1_1, .int .i64 t377] (by rfl) rfl rfl M_ ?_
                       with_reducible refine (vtimer_Sleep.calls t322 _ _ t323 _ _ t326 a1_1 t377 t378 t379 t382 t385 _ ?side1 ?side2 ?side3 ?side4 A260.out).mono ?_
                       (case side1 => exact Rs_ HO_330001)
                       (case side2 => exact (Kd.R_reads' HO_330001.out).2.1)
                       (case side3 => exact Rs_ HO_330002)
                       (case side4 => exact (Kd.R_reads' HO_330002.out).2.1)
                       rintro e w321 ⟨v380, v383, rfl, ho0, ho1, hb⟩
                       refine ⟨_, rfl, ?_⟩
                       have n0_ := Aside0.mk (Kd.R_elder' (R_ HO_330001) (Kd.R_base ho0) hb)
                       have n1_ := Aside0.mk (Kd.R_elder' (R_ HO_330002) (Kd.R_base ho1) hb)
                       have n2_ := Aside0.mk (Kd.R_elder' (R_ HO_341001) (Kd.R_base ho0) hb)
                       have n3_ := Aside0.mk (Kd.R_elder' (R_ HO_341002) (Kd.R_base ho1) hb)
                       have n4_ := Aside0.mk (Kd.R_lower (Kd.R_new' (Kd.R_new' ho0 (Kd.R_lt (R_ HO_330001))) (Kd.R_lt (R_ HO_341001))) (below_size L_))
                       have n5_ := Aside0.mk (Kd.R_lower (Kd.R_new' (Kd.R_new' ho1 (Kd.R_lt (R_ HO_330002))) (Kd.R_lt (R_ HO_341002))) (below_size L_))
                       have n6_ := Bb_ BK320 hb
                       have n7_ := Bb_ BK329 hb
                       have n8_ := Bb_ BK340 hb
                       have n9_ := Bb_ BK386 hb
                       have n10_ := Ls_ HB hb
                       clear HO_330001
                       clear HO_330002
                       clear HO_341001
                       clear HO_341002
                       clear BK320
                       clear BK329
                       clear BK340
                       clear BK386
                       clear HB
                       have HO_330001 := n0_
                       have HO_330002 := n1_
                       have HO_341001 := n2_
                       have HO_341002 := n3_
                       have HO381 := n4_
                       have HO384 := n5_
                       have BK320 := n6_
                       have BK329 := n7_
                       have BK340 := n8_
                       have BK386 := n9_
                       have HB := n10_
                       clear n0_ n1_ n2_ n3_ n4_ n5_ n6_ n7_ n8_ n9_ n10_
                       (try clear hb)
                       (try clear hb2)
                       (try clear hk)
                       (try clear hi)
                       (try clear ho0)
                       (try clear ho1)
                       refine hK.out _ _ ⟨(blk_cell BK329.out 0).trans rfl, (blk_cell BK329.out 1).trans rfl, (blk_cell BK329.out 2).trans rfl, (blk_cell BK320.out 0).trans rfl, (blk_cell BK320.out 1).trans rfl, (blk_cell BK320.out 2).trans rfl, (blk_cell BK320.out 3).trans rfl, (blk_cell BK320.out 4).trans rfl, (blk_cell BK320.out 5).trans rfl, (blk_cell BK320.out 6).trans rfl⟩ (fun hHeld => ?_)
                       clear hK K
                       refine nm_ 132 ?_
                       refine pu_ 7 125 HT_ ?_
                       refine pu_ 8 133 HT_ ?_
                       refine pu_ 9 134 HT_ ?_
                       exact norm_ (by simp only [putAll, Act.put, List.setIfInBounds_toArray, List.set_cons_zero, List.set_cons_succ]) (hCont (v380, v383, gb386) _ ⟨hHeld, (by (with_reducible repeat (first | apply Kd.R_alloc | apply Kd.R_drewN | apply Kd.R_drew)); exact Kd.R_mono HO381.out (fun _ hk => ⟨hk.1.2, hk.2⟩)), (by (with_reducible repeat (first | apply Kd.R_alloc | apply Kd.R_drewN | apply Kd.R_drew)); exact Kd.R_mono HO384.out (fun _ hk => ⟨hk.1.2, hk.2⟩)), (by (with_reducible repeat (first | apply Kd.R_alloc | apply Kd.R_drewN | apply Kd.R_drew)); exact Kd.R_mono HO_330001.out (fun _ hk => ⟨hk.2, hk.1⟩)), (by (with_reducible repeat (first | apply Kd.R_alloc | apply Kd.R_drewN | apply Kd.R_drew)); exact Kd.R_mono HO_330002.out (fun _ hk => ⟨hk.2, hk.1⟩)), (by (with_reducible repeat (first | apply Kd.R_alloc | apply Kd.R_drewN | apply Kd.R_drew)); exact Kd.R_mono HO_341001.out (fun _ hk => ⟨hk.2, hk.1⟩)), (by (with_reducible repeat (first | apply Kd.R_alloc | apply Kd.R_drewN | apply Kd.R_drew)); exact Kd.R_mono HO_341002.out (fun _ hk => ⟨hk.2, hk.1⟩)), (B_ BK320), (B_ BK329), (B_ BK340), (B_ BK386), GW386.out, GE386.out, NB320_386.out, NB386_320.out, NB329_386.out, NB386_329.out, NB340_386.out, NB386_340.out, L_⟩)
                   · skip
                     refine box_step ?hg (N := 21) ?hd (cs := #[.int .i64 0, .slice none 0 0, .slice none 0 0]) (t := 27) ?hr ?_; (case hd => rfl); (case hg => rfl); (case hr => first | (go_simp; done) | (go_simp; rfl))
                     intro gb386 hg w319 hbox hb
                     have n0_ := Rb_ HO_330001 hb
                     have n1_ := Rb_ HO_330002 hb
                     have n2_ := Rb_ HO_341001 hb
                     have n3_ := Rb_ HO_341002 hb
                     have n4_ := Bb_ BK320 hb
                     have n5_ := Bb_ BK329 hb
                     have n6_ := Bb_ BK340 hb
                     have n7_ := Ls_ HB hb
                     have n8_ := Aside0.mk (hbox)
                     have n9_ := G_ hg HB
                     have n10_ := G_ hg HB
                     have n11_ := Nl_ hg BK320
                     have n12_ := Ng_ hg BK320
                     have n13_ := Nl_ hg BK329
                     have n14_ := Ng_ hg BK329
                     have n15_ := Nl_ hg BK340
                     have n16_ := Ng_ hg BK340
                     clear HO_330001
                     clear HO_330002
                     clear HO_341001
                     clear HO_341002
                     clear BK320
                     clear BK329
                     clear BK340
                     clear HB
                     have HO_330001 := n0_
                     have HO_330002 := n1_
                     have HO_341001 := n2_
                     have HO_341002 := n3_
                     have BK320 := n4_
                     have BK329 := n5_
                     have BK340 := n6_
                     have HB := n7_
                     have BK386 := n8_
                     have GW386 := n9_
                     have GE386 := n10_
                     have NB320_386 := n11_
                     have NB386_320 := n12_
                     have NB329_386 := n13_
                     have NB386_329 := n14_
                     have NB340_386 := n15_
                     have NB386_340 := n16_
                     clear n0_ n1_ n2_ n3_ n4_ n5_ n6_ n7_ n8_ n9_ n10_ n11_ n12_ n13_ n14_ n15_ n16_
                     clear hb hbox hg
                     refine hK.out _ _ ⟨(blk_cell BK329.out 0).trans rfl, (blk_cell BK329.out 1).trans rfl, (blk_cell BK329.out 2).trans rfl, (blk_cell BK320.out 0).trans rfl, (blk_cell BK320.out 1).trans rfl, (blk_cell BK320.out 2).trans rfl, (blk_cell BK320.out 3).trans rfl, (blk_cell BK320.out 4).trans rfl, (blk_cell BK320.out 5).trans rfl, (blk_cell BK320.out 6).trans rfl⟩ (fun hHeld => ?_)
                     clear hK K
                     refine nm_ 21 ?_
                     refine on_ 5 131 HT_ rfl rfl (fun K hK => ?_)
                     refine goes_ Try.func22 (by kernel_rfl) rfl #[.agg #[.int .i64 a1_0, .int .i64 a1_1, .int .i64 a1_2, .int .i64 a1_3, .int .i64 a1_4, .int .i64 a1_5, .bool a1_6], .agg #[.int .i64 t322, .slice Ao21 t323.length co21, .slice Ao22 t326.length co22]] (by rfl) rfl rfl M_ ?_
                     with_reducible refine (mainsheetlaw18_Op_time.calls a1_0 a1_1 a1_2 a1_3 a1_4 a1_5 a1_6 t322 _ _ t323 _ _ t326 t377 _ ?side1 ?side2 ?side3 ?side4 A259.out).mono ?_
                     (case side1 => exact Rs_ HO_330001)
                     (case side2 => exact (Kd.R_reads' HO_330001.out).2.1)
                     (case side3 => exact Rs_ HO_330002)
                     (case side4 => exact (Kd.R_reads' HO_330002.out).2.1)
                     rintro e w320 ⟨rfl, hb⟩
                     refine ⟨_, rfl, ?_⟩
                     have n0_ := Rb_ HO_330001 hb
                     have n1_ := Rb_ HO_330002 hb
                     have n2_ := Rb_ HO_341001 hb
                     have n3_ := Rb_ HO_341002 hb
                     have n4_ := Bb_ BK320 hb
                     have n5_ := Bb_ BK329 hb
                     have n6_ := Bb_ BK340 hb
                     have n7_ := Bb_ BK386 hb
                     have n8_ := Ls_ HB hb
                     clear HO_330001
                     clear HO_330002
                     clear HO_341001
                     clear HO_341002
                     clear BK320
                     clear BK329
                     clear BK340
                     clear BK386
                     clear HB
                     have HO_330001 := n0_
                     have HO_330002 := n1_
                     have HO_341001 := n2_
                     have HO_341002 := n3_
                     have BK320 := n4_
                     have BK329 := n5_
                     have BK340 := n6_
                     have BK386 := n7_
                     have HB := n8_
                     clear n0_ n1_ n2_ n3_ n4_ n5_ n6_ n7_ n8_
                     (try clear hb)
                     (try clear hb2)
                     (try clear hk)
                     (try clear hi)
                     refine hK.out _ _ ⟨(blk_cell BK329.out 0).trans rfl, (blk_cell BK329.out 1).trans rfl, (blk_cell BK329.out 2).trans rfl, (blk_cell BK320.out 0).trans rfl, (blk_cell BK320.out 1).trans rfl, (blk_cell BK320.out 2).trans rfl, (blk_cell BK320.out 3).trans rfl, (blk_cell BK320.out 4).trans rfl, (blk_cell BK320.out 5).trans rfl, (blk_cell BK320.out 6).trans rfl⟩ (fun hHeld => ?_)
                     clear hK K
                     refine nm_ 131 ?_
                     refine on_ 6 132 HT_ rfl rfl (fun K hK => ?_)
                     refine goes_ Try.func24 (by kernel_rfl) rfl #[.agg #[.int .i64 t322, .slice Ao21 t323.length co21, .slice Ao22 t326.length co22], .int .i64 a1_1, .int .i64 t377] (by rfl) rfl rfl M_ ?_
                     with_reducible refine (vtimer_Sleep.calls t322 _ _ t323 _ _ t326 a1_1 t377 t378 t379 t382 t385 _ ?side1 ?side2 ?side3 ?side4 A260.out).mono ?_
                     (case side1 => exact Rs_ HO_330001)
                     (case side2 => exact (Kd.R_reads' HO_330001.out).2.1)
                     (case side3 => exact Rs_ HO_330002)
                     (case side4 => exact (Kd.R_reads' HO_330002.out).2.1)
                     rintro e w321 ⟨v380, v383, rfl, ho0, ho1, hb⟩
                     refine ⟨_, rfl, ?_⟩
                     have n0_ := Aside0.mk (Kd.R_elder' (R_ HO_330001) (Kd.R_base ho0) hb)
                     have n1_ := Aside0.mk (Kd.R_elder' (R_ HO_330002) (Kd.R_base ho1) hb)
                     have n2_ := Aside0.mk (Kd.R_elder' (R_ HO_341001) (Kd.R_base ho0) hb)
                     have n3_ := Aside0.mk (Kd.R_elder' (R_ HO_341002) (Kd.R_base ho1) hb)
                     have n4_ := Aside0.mk (Kd.R_lower (Kd.R_new' (Kd.R_new' ho0 (Kd.R_lt (R_ HO_330001))) (Kd.R_lt (R_ HO_341001))) (below_size L_))
                     have n5_ := Aside0.mk (Kd.R_lower (Kd.R_new' (Kd.R_new' ho1 (Kd.R_lt (R_ HO_330002))) (Kd.R_lt (R_ HO_341002))) (below_size L_))
                     have n6_ := Bb_ BK320 hb
                     have n7_ := Bb_ BK329 hb
                     have n8_ := Bb_ BK340 hb
                     have n9_ := Bb_ BK386 hb
                     have n10_ := Ls_ HB hb
                     clear HO_330001
                     clear HO_330002
                     clear HO_341001
                     clear HO_341002
                     clear BK320
                     clear BK329
                     clear BK340
                     clear BK386
                     clear HB
                     have HO_330001 := n0_
                     have HO_330002 := n1_
                     have HO_341001 := n2_
                     have HO_341002 := n3_
                     have HO381 := n4_
                     have HO384 := n5_
                     have BK320 := n6_
                     have BK329 := n7_
                     have BK340 := n8_
                     have BK386 := n9_
                     have HB := n10_
                     clear n0_ n1_ n2_ n3_ n4_ n5_ n6_ n7_ n8_ n9_ n10_
                     (try clear hb)
                     (try clear hb2)
                     (try clear hk)
                     (try clear hi)
                     (try clear ho0)
                     (try clear ho1)
                     refine hK.out _ _ ⟨(blk_cell BK329.out 0).trans rfl, (blk_cell BK329.out 1).trans rfl, (blk_cell BK329.out 2).trans rfl, (blk_cell BK320.out 0).trans rfl, (blk_cell BK320.out 1).trans rfl, (blk_cell BK320.out 2).trans rfl, (blk_cell BK320.out 3).trans rfl, (blk_cell BK320.out 4).trans rfl, (blk_cell BK320.out 5).trans rfl, (blk_cell BK320.out 6).trans rfl⟩ (fun hHeld => ?_)
                     clear hK K
                     refine nm_ 132 ?_
                     refine pu_ 7 125 HT_ ?_
                     refine pu_ 8 133 HT_ ?_
                     refine pu_ 9 134 HT_ ?_
                     exact norm_ (by simp only [putAll, Act.put, List.setIfInBounds_toArray, List.set_cons_zero, List.set_cons_succ]) (hCont (v380, v383, gb386) _ ⟨hHeld, (by (with_reducible repeat (first | apply Kd.R_alloc | apply Kd.R_drewN | apply Kd.R_drew)); exact Kd.R_mono HO381.out (fun _ hk => ⟨hk.1.2, hk.2⟩)), (by (with_reducible repeat (first | apply Kd.R_alloc | apply Kd.R_drewN | apply Kd.R_drew)); exact Kd.R_mono HO384.out (fun _ hk => ⟨hk.1.2, hk.2⟩)), (by (with_reducible repeat (first | apply Kd.R_alloc | apply Kd.R_drewN | apply Kd.R_drew)); exact Kd.R_mono HO_330001.out (fun _ hk => ⟨hk.2, hk.1⟩)), (by (with_reducible repeat (first | apply Kd.R_alloc | apply Kd.R_drewN | apply Kd.R_drew)); exact Kd.R_mono HO_330002.out (fun _ hk => ⟨hk.2, hk.1⟩)), (by (with_reducible repeat (first | apply Kd.R_alloc | apply Kd.R_drewN | apply Kd.R_drew)); exact Kd.R_mono HO_341001.out (fun _ hk => ⟨hk.2, hk.1⟩)), (by (with_reducible repeat (first | apply Kd.R_alloc | apply Kd.R_drewN | apply Kd.R_drew)); exact Kd.R_mono HO_341002.out (fun _ hk => ⟨hk.2, hk.1⟩)), (B_ BK320), (B_ BK329), (B_ BK340), (B_ BK386), GW386.out, GE386.out, NB320_386.out, NB386_320.out, NB329_386.out, NB386_329.out, NB340_386.out, NB386_340.out, L_⟩)
                 rintro ⟨v380, v383, gb386⟩ w322 ⟨hS_, h0_, h1_, h2_, h3_, h4_, h5_, h6_, h7_, h8_, h9_, h10_, h11_, h12_, h13_, h14_, h15_, h16_, h17_, h18_⟩
                 have n0_ : Aside0 (Kd.R k88 88 w322 w.heap.size (fun k_ => some k_ ≠ (.slice Ao21 t323.length co21 : Value).ownBlock ∧ some k_ ≠ (.slice Ao30 t333.length co30 : Value).ownBlock) v380 t379) := ⟨h0_⟩
                 have n1_ : Aside0 (Kd.R k47 47 w322 w.heap.size (fun k_ => some k_ ≠ (.slice Ao22 t326.length co22 : Value).ownBlock ∧ some k_ ≠ (.slice Ao32 t336.length co32 : Value).ownBlock) v383 t382) := ⟨h1_⟩
                 have n2_ : Aside0 (Kd.R k88 88 w322 w.heap.size (fun k_ => some k_ ≠ (v380 : Value).ownBlock ∧ some k_ ≠ (.slice Ao30 t333.length co30 : Value).ownBlock) (.slice Ao21 t323.length co21) t323) := ⟨h2_⟩
                 have n3_ : Aside0 (Kd.R k47 47 w322 w.heap.size (fun k_ => some k_ ≠ (v383 : Value).ownBlock ∧ some k_ ≠ (.slice Ao32 t336.length co32 : Value).ownBlock) (.slice Ao22 t326.length co22) t326) := ⟨h3_⟩
                 have n4_ : Aside0 (Kd.R k88 88 w322 w.heap.size (fun k_ => some k_ ≠ (v380 : Value).ownBlock ∧ some k_ ≠ (.slice Ao21 t323.length co21 : Value).ownBlock) (.slice Ao30 t333.length co30) t333) := ⟨h4_⟩
                 have n5_ : Aside0 (Kd.R k47 47 w322 w.heap.size (fun k_ => some k_ ≠ (v383 : Value).ownBlock ∧ some k_ ≠ (.slice Ao22 t326.length co22 : Value).ownBlock) (.slice Ao32 t336.length co32) t336) := ⟨h5_⟩
                 have n6_ : Aside0 (w322.heap[gb320]? = some (.cells #[.int .i64 a1_0, .int .i64 a1_1, .int .i64 a1_2, .int .i64 a1_3, .int .i64 a1_4, .int .i64 a1_5, .bool a1_6] 58 (0, 0))) := ⟨h6_⟩
                 have n7_ : Aside0 (w322.heap[gb329]? = some (.cells #[.int .i64 t322, .slice Ao21 t323.length co21, .slice Ao22 t326.length co22] 27 (0, 0))) := ⟨h7_⟩
                 have n8_ : Aside0 (w322.heap[gb340]? = some (.cells #[.int .i64 t332, .slice Ao30 t333.length co30, .slice Ao32 t336.length co32] 27 (0, 0))) := ⟨h8_⟩
                 have n9_ : Aside0 (w322.heap[gb386]? = some (.cells #[.int .i64 0, .slice none 0 0, .slice none 0 0] 27 (0, 0))) := ⟨h9_⟩
                 have n10_ : Aside0 (w.heap.size ≤ gb386) := ⟨h10_⟩
                 have n11_ : Aside0 (w.heap.size ≤ gb386) := ⟨h11_⟩
                 have n12_ : Aside0 (gb320 ≠ gb386) := ⟨h12_⟩
                 have n13_ : Aside0 (gb386 ≠ gb320) := ⟨h13_⟩
                 have n14_ : Aside0 (gb329 ≠ gb386) := ⟨h14_⟩
                 have n15_ : Aside0 (gb386 ≠ gb329) := ⟨h15_⟩
                 have n16_ : Aside0 (gb340 ≠ gb386) := ⟨h16_⟩
                 have n17_ : Aside0 (gb386 ≠ gb340) := ⟨h17_⟩
                 have n18_ : Aside0 (Below w.heap.size w w322) := ⟨h18_⟩
                 clear HO_330001
                 clear HO_330002
                 clear HO_341001
                 clear HO_341002
                 clear BK320
                 clear BK329
                 clear BK340
                 clear HB
                 clear h0_ h1_ h2_ h3_ h4_ h5_ h6_ h7_ h8_ h9_ h10_ h11_ h12_ h13_ h14_ h15_ h16_ h17_ h18_
                 have HO381 := n0_
                 have HO384 := n1_
                 have HO_330001 := n2_
                 have HO_330002 := n3_
                 have HO_341001 := n4_
                 have HO_341002 := n5_
                 have BK320 := n6_
                 have BK329 := n7_
                 have BK340 := n8_
                 have BK386 := n9_
                 have GW386 := n10_
                 have GE386 := n11_
                 have NB320_386 := n12_
                 have NB386_320 := n13_
                 have NB329_386 := n14_
                 have NB386_329 := n15_
                 have NB340_386 := n16_
                 have NB386_340 := n17_
                 have HB := n18_
                 clear n0_ n1_ n2_ n3_ n4_ n5_ n6_ n7_ n8_ n9_ n10_ n11_ n12_ n13_ n14_ n15_ n16_ n17_ n18_
                 have hHeld : w322.cell? ⟨gb329, 0, none⟩ = some (.int .i64 t322) ∧ w322.cell? ⟨gb329, 1, none⟩ = some (.slice Ao21 t323.length co21) ∧ w322.cell? ⟨gb329, 2, none⟩ = some (.slice Ao22 t326.length co22) ∧ w322.cell? ⟨gb320, 0, none⟩ = some (.int .i64 a1_0) ∧ w322.cell? ⟨gb320, 1, none⟩ = some (.int .i64 a1_1) ∧ w322.cell? ⟨gb320, 2, none⟩ = some (.int .i64 a1_2) ∧ w322.cell? ⟨gb320, 3, none⟩ = some (.int .i64 a1_3) ∧ w322.cell? ⟨gb320, 4, none⟩ = some (.int .i64 a1_4) ∧ w322.cell? ⟨gb320, 5, none⟩ = some (.int .i64 a1_5) ∧ w322.cell? ⟨gb320, 6, none⟩ = some (.bool a1_6) := hS_
                 obtain ⟨Ao324, co324, eo324⟩ := Kd.R_slice HO381.out
                 (first | subst eo324 | (injection eo324 with f1_ f2_ f3_; have f4_ := f1_.symm; have f5_ := f3_.symm; clear f1_ f2_ f3_; subst f4_; subst f5_))
                 obtain ⟨Ao326, co326, eo326⟩ := Kd.R_slice HO384.out
                 (first | subst eo326 | (injection eo326 with f1_ f2_ f3_; have f4_ := f1_.symm; have f5_ := f3_.symm; clear f1_ f2_ f3_; subst f4_; subst f5_))
                 refine norm_ (a' := ?_) ?_ ?_
                 rotate_left
                 · simp only [putAll, Act.put, List.setIfInBounds_toArray, List.set_cons_zero, List.set_cons_succ]
                   rfl
                 refine one_ (i := 11) (N := none) #[true, true, true, true, true, true, true, true, true, true, true, true, false] rfl rfl (one_of HT_.out (by kernel_rfl)) (by decide) (fun K hK => ?_)
                 have hs323 : w322.cell? ⟨gb386, 0, none⟩ = some (.int .i64 0) := (blk_cell BK386.out 0).trans rfl
                 have hfs323 := blk_frozen BK386.out 0
                 have hns323_0 := NB320_386.out
                 have hns323_1 := NB329_386.out
                 have hns323_2 := NB340_386.out
                 have hms323_0 := NB386_320.out
                 have hms323_1 := NB386_329.out
                 have hms323_2 := NB386_340.out
                 have hs325 : w322.cell? ⟨gb386, 1, none⟩ = some (.slice none 0 0) := (blk_cell BK386.out 1).trans rfl
                 have hfs325 := blk_frozen BK386.out 1
                 have hns325_0 := NB320_386.out
                 have hns325_1 := NB329_386.out
                 have hns325_2 := NB340_386.out
                 have hms325_0 := NB386_320.out
                 have hms325_1 := NB386_329.out
                 have hms325_2 := NB386_340.out
                 have hs327 : w322.cell? ⟨gb386, 2, none⟩ = some (.slice none 0 0) := (blk_cell BK386.out 2).trans rfl
                 have hfs327 := blk_frozen BK386.out 2
                 have hns327_0 := NB320_386.out
                 have hns327_1 := NB329_386.out
                 have hns327_2 := NB340_386.out
                 have hms327_0 := NB386_320.out
                 have hms327_1 := NB386_329.out
                 have hms327_2 := NB386_340.out
                 refine skip_ (w1 := ?_) (by rfl) rfl ?_ ?_
                 rotate_left
                 · go_simp
                   rfl
                 refine hK.out _ _ ⟨((cell_far (p := ⟨gb386, _, none⟩) NB329_386.out _).trans (((cell_far (p := ⟨gb386, _, none⟩) NB329_386.out _).trans (((cell_far (p := ⟨gb386, _, none⟩) NB329_386.out _).trans (hHeld.1)))))), ((cell_far (p := ⟨gb386, _, none⟩) NB329_386.out _).trans (((cell_far (p := ⟨gb386, _, none⟩) NB329_386.out _).trans (((cell_far (p := ⟨gb386, _, none⟩) NB329_386.out _).trans (hHeld.2.1)))))), ((cell_far (p := ⟨gb386, _, none⟩) NB329_386.out _).trans (((cell_far (p := ⟨gb386, _, none⟩) NB329_386.out _).trans (((cell_far (p := ⟨gb386, _, none⟩) NB329_386.out _).trans (hHeld.2.2.1)))))), ((cell_far (p := ⟨gb386, _, none⟩) NB320_386.out _).trans (((cell_far (p := ⟨gb386, _, none⟩) NB320_386.out _).trans (((cell_far (p := ⟨gb386, _, none⟩) NB320_386.out _).trans (hHeld.2.2.2.1)))))), ((cell_far (p := ⟨gb386, _, none⟩) NB320_386.out _).trans (((cell_far (p := ⟨gb386, _, none⟩) NB320_386.out _).trans (((cell_far (p := ⟨gb386, _, none⟩) NB320_386.out _).trans (hHeld.2.2.2.2.1)))))), ((cell_far (p := ⟨gb386, _, none⟩) NB320_386.out _).trans (((cell_far (p := ⟨gb386, _, none⟩) NB320_386.out _).trans (((cell_far (p := ⟨gb386, _, none⟩) NB320_386.out _).trans (hHeld.2.2.2.2.2.1)))))), ((cell_far (p := ⟨gb386, _, none⟩) NB320_386.out _).trans (((cell_far (p := ⟨gb386, _, none⟩) NB320_386.out _).trans (((cell_far (p := ⟨gb386, _, none⟩) NB320_386.out _).trans (hHeld.2.2.2.2.2.2.1)))))), ((cell_far (p := ⟨gb386, _, none⟩) NB320_386.out _).trans (((cell_far (p := ⟨gb386, _, none⟩) NB320_386.out _).trans (((cell_far (p := ⟨gb386, _, none⟩) NB320_386.out _).trans (hHeld.2.2.2.2.2.2.2.1)))))), ((cell_far (p := ⟨gb386, _, none⟩) NB320_386.out _).trans (((cell_far (p := ⟨gb386, _, none⟩) NB320_386.out _).trans (((cell_far (p := ⟨gb386, _, none⟩) NB320_386.out _).trans (hHeld.2.2.2.2.2.2.2.2.1)))))), ((cell_far (p := ⟨gb386, _, none⟩) NB320_386.out _).trans (((cell_far (p := ⟨gb386, _, none⟩) NB320_386.out _).trans (((cell_far (p := ⟨gb386, _, none⟩) NB320_386.out _).trans (hHeld.2.2.2.2.2.2.2.2.2))))))⟩ (fun hHeld => ?_)
                 clear hK K
                 refine pu_ 12 7 HT_ ?_
                 refine done_ (done_of HT_.out (by kernel_rfl)) ?_
                 have hnb328 := NB386_320.out
                 have hnc328 := NB320_386.out
                 have hnb329 := NB386_329.out
                 have hnc329 := NB329_386.out
                 have hnb330 := NB386_340.out
                 have hnc330 := NB340_386.out
                 have hcz331_0 : w322.cell? ⟨gb386, 0, none⟩ = some (.int .i64 0) := (blk_cell BK386.out 0).trans rfl
                 have hcz331_1 : w322.cell? ⟨gb386, 1, none⟩ = some (.slice none 0 0) := (blk_cell BK386.out 1).trans rfl
                 have hcz331_2 : w322.cell? ⟨gb386, 2, none⟩ = some (.slice none 0 0) := (blk_cell BK386.out 2).trans rfl
                 have hfz331_0 := blk_frozen BK386.out 0
                 have hfz331_1 := blk_frozen BK386.out 1
                 have hfz331_2 := blk_frozen BK386.out 2
                 have hnb332 := NB320_329.out
                 have hnc332 := NB329_320.out
                 have hnb333 := NB320_340.out
                 have hnc333 := NB340_320.out
                 have hcz334_0 : w322.cell? ⟨gb320, 0, none⟩ = some (.int .i64 a1_0) := (blk_cell BK320.out 0).trans rfl
                 have hcz334_1 : w322.cell? ⟨gb320, 1, none⟩ = some (.int .i64 a1_1) := (blk_cell BK320.out 1).trans rfl
                 have hcz334_2 : w322.cell? ⟨gb320, 2, none⟩ = some (.int .i64 a1_2) := (blk_cell BK320.out 2).trans rfl
                 have hcz334_3 : w322.cell? ⟨gb320, 3, none⟩ = some (.int .i64 a1_3) := (blk_cell BK320.out 3).trans rfl
                 have hcz334_4 : w322.cell? ⟨gb320, 4, none⟩ = some (.int .i64 a1_4) := (blk_cell BK320.out 4).trans rfl
                 have hcz334_5 : w322.cell? ⟨gb320, 5, none⟩ = some (.int .i64 a1_5) := (blk_cell BK320.out 5).trans rfl
                 have hcz334_6 : w322.cell? ⟨gb320, 6, none⟩ = some (.bool a1_6) := (blk_cell BK320.out 6).trans rfl
                 have hfz334_0 := blk_frozen BK320.out 0
                 have hfz334_1 := blk_frozen BK320.out 1
                 have hfz334_2 := blk_frozen BK320.out 2
                 have hfz334_3 := blk_frozen BK320.out 3
                 have hfz334_4 := blk_frozen BK320.out 4
                 have hfz334_5 := blk_frozen BK320.out 5
                 have hfz334_6 := blk_frozen BK320.out 6
                 try go_wp2_with (first | ((with_reducible refine gate_callee (f := 15) rfl ?_); refine goesL_ (some 145) rfl rfl Try.func15 (by kernel_rfl) rfl #[.agg #[.int .i64 t378, .slice Ao324 t379.length co324, .slice Ao326 t382.length co326], .int .i64 a1_1] rfl M_ ?_; (with_reducible refine (vtimer_Sleeps.calls kj9 t378 _ _ t379 _ _ t382 a1_1 t387 true _ ?side1 ?side2 ?side3 ?side4 A262.out).mono ?_); (case side1 => refine (Kd.R_reads' (e := 88) (base := w.heap.size) (ok := fun k_ => (some k_ ≠ (.slice Ao21 t323.length co21 : Value).ownBlock ∧ some k_ ≠ (.slice Ao30 t333.length co30 : Value).ownBlock)) (n := t379.length) (c := co324) ?_).2.2; exact (Rf_ HO381 BK386)); (case side2 => exact (Kd.R_reads' HO381.out).2.1); (case side3 => refine (Kd.R_reads' (e := 47) (base := w.heap.size) (ok := fun k_ => (some k_ ≠ (.slice Ao22 t326.length co22 : Value).ownBlock ∧ some k_ ≠ (.slice Ao32 t336.length co32 : Value).ownBlock)) (n := t382.length) (c := co326) ?_).2.2; exact (Rf_ HO384 BK386)); (case side4 => exact (Kd.R_reads' HO384.out).2.1); rintro e w335 ⟨rfl, hb⟩; refine ⟨_, rfl, ?_⟩; replace HO_330001 := Aside0.mk (Kd.R_below (Rf_ HO_330001 BK386) hb); replace HO_330002 := Aside0.mk (Kd.R_below (Rf_ HO_330002 BK386) hb); replace HO_341001 := Aside0.mk (Kd.R_below (Rf_ HO_341001 BK386) hb); replace HO_341002 := Aside0.mk (Kd.R_below (Rf_ HO_341002 BK386) hb); replace HO381 := Aside0.mk (Kd.R_below (Rf_ HO381 BK386) hb); replace HO384 := Aside0.mk (Kd.R_below (Rf_ HO384 BK386) hb); replace BK320 := Aside0.mk (blk_below (Bz_ BK320) hb); replace BK329 := Aside0.mk (blk_below (Bz_ BK329) hb); replace BK340 := Aside0.mk (blk_below (Bz_ BK340) hb); replace BK386 := Aside0.mk (blk_below (g := gb386) (o := .cells #[.int .i64 t378, .slice Ao324 t379.length co324, .slice Ao326 t382.length co326] 27 (0, 0)) (by (with_reducible repeat (first | refine blk_drewN ?_ _ | refine blk_drew ?_ | refine blk_alloc ?_ _)); refine blk_put (cs := #[.int .i64 t378, .slice Ao324 t379.length co324, .slice none 0 0]) ?_ 2 _ rfl; (with_reducible repeat (first | refine blk_drewN ?_ _ | refine blk_drew ?_ | refine blk_alloc ?_ _)); refine blk_put (cs := #[.int .i64 t378, .slice none 0 0, .slice none 0 0]) ?_ 1 _ rfl; (with_reducible repeat (first | refine blk_drewN ?_ _ | refine blk_drew ?_ | refine blk_alloc ?_ _)); refine blk_put (cs := #[.int .i64 0, .slice none 0 0, .slice none 0 0]) ?_ 0 _ rfl; (with_reducible repeat (first | refine blk_drewN ?_ _ | refine blk_drew ?_ | refine blk_alloc ?_ _)); exact BK386.out) hb); replace HB := Ls_ HB hb; (try clear hb); (try clear hb2); (try clear hk); (try clear hi); have hcz336_0 : w335.cell? ⟨gb386, 0, none⟩ = some (.int .i64 t378) := (blk_cell BK386.out 0).trans rfl; have hcz336_1 : w335.cell? ⟨gb386, 1, none⟩ = some (.slice Ao324 t379.length co324) := (blk_cell BK386.out 1).trans rfl; have hcz336_2 : w335.cell? ⟨gb386, 2, none⟩ = some (.slice Ao326 t382.length co326) := (blk_cell BK386.out 2).trans rfl; have hfz336_0 := blk_frozen BK386.out 0; have hfz336_1 := blk_frozen BK386.out 1; have hfz336_2 := blk_frozen BK386.out 2; have hcz337_0 : w335.cell? ⟨gb320, 0, none⟩ = some (.int .i64 a1_0) := (blk_cell BK320.out 0).trans rfl; have hcz337_1 : w335.cell? ⟨gb320, 1, none⟩ = some (.int .i64 a1_1) := (blk_cell BK320.out 1).trans rfl; have hcz337_2 : w335.cell? ⟨gb320, 2, none⟩ = some (.int .i64 a1_2) := (blk_cell BK320.out 2).trans rfl; have hcz337_3 : w335.cell? ⟨gb320, 3, none⟩ = some (.int .i64 a1_3) := (blk_cell BK320.out 3).trans rfl; have hcz337_4 : w335.cell? ⟨gb320, 4, none⟩ = some (.int .i64 a1_4) := (blk_cell BK320.out 4).trans rfl; have hcz337_5 : w335.cell? ⟨gb320, 5, none⟩ = some (.int .i64 a1_5) := (blk_cell BK320.out 5).trans rfl; have hcz337_6 : w335.cell? ⟨gb320, 6, none⟩ = some (.bool a1_6) := (blk_cell BK320.out 6).trans rfl; have hfz337_0 := blk_frozen BK320.out 0; have hfz337_1 := blk_frozen BK320.out 1; have hfz337_2 := blk_frozen BK320.out 2; have hfz337_3 := blk_frozen BK320.out 3; have hfz337_4 := blk_frozen BK320.out 4; have hfz337_5 := blk_frozen BK320.out 5; have hfz337_6 := blk_frozen BK320.out 6) | ((with_reducible refine gate_callee (f := 25) rfl ?_); refine goesL_ (some 152) rfl rfl Try.func25 (by kernel_rfl) rfl #[.agg #[.int .i64 t378, .slice Ao324 t379.length co324, .slice Ao326 t382.length co326], .int .i64 a1_1] rfl M_ ?_; (with_reducible refine (vtimer_Wake.calls t378 _ _ t379 _ _ t382 a1_1 t389 t390 t393 t396 _ ?side1 ?side2 ?side3 ?side4 A263.out).mono ?_); (case side1 => exact Rs_ HO381); (case side2 => exact (Kd.R_reads' HO381.out).2.1); (case side3 => exact Rs_ HO384); (case side4 => exact (Kd.R_reads' HO384.out).2.1); rintro e w338 ⟨v391, v394, rfl, ho0, ho1, hb⟩; refine ⟨_, rfl, ?_⟩; have HO392 := Aside0.mk (Kd.R_lower (Kd.R_new' (Kd.R_new' (Kd.R_new' ho0 (Kd.R_lt (R_ HO_330001))) (Kd.R_lt (R_ HO_341001))) (Kd.R_lt (R_ HO381))) (below_size L_)); have HO395 := Aside0.mk (Kd.R_lower (Kd.R_new' (Kd.R_new' (Kd.R_new' ho1 (Kd.R_lt (R_ HO_330002))) (Kd.R_lt (R_ HO_341002))) (Kd.R_lt (R_ HO384))) (below_size L_)); replace HO_330001 := Aside0.mk (Kd.R_elder' (R_ HO_330001) (Kd.R_base ho0) hb); replace HO_330002 := Aside0.mk (Kd.R_elder' (R_ HO_330002) (Kd.R_base ho1) hb); replace HO_341001 := Aside0.mk (Kd.R_elder' (R_ HO_341001) (Kd.R_base ho0) hb); replace HO_341002 := Aside0.mk (Kd.R_elder' (R_ HO_341002) (Kd.R_base ho1) hb); replace HO381 := Aside0.mk (Kd.R_elder' (R_ HO381) (Kd.R_base ho0) hb); replace HO384 := Aside0.mk (Kd.R_elder' (R_ HO384) (Kd.R_base ho1) hb); replace BK320 := Bb_ BK320 hb; replace BK329 := Bb_ BK329 hb; replace BK340 := Bb_ BK340 hb; replace BK386 := Bb_ BK386 hb; replace HB := Ls_ HB hb; (try clear hb); (try clear hb2); (try clear hk); (try clear hi); (try clear ho0); (try clear ho1)) | ((with_reducible refine gate_dst (N := 24) rfl ?_); refine box_ 24 27 #[.int .i64 0, .slice none 0 0, .slice none 0 0] ?_; intro gb397 hg w339 hbox hb; have BK397 := Aside0.mk (hbox); have GW397 := G_ hg HB; have GE397 := G_ hg HB; have NB320_397 := Nl_ hg BK320; have NB397_320 := Ng_ hg BK320; have NB329_397 := Nl_ hg BK329; have NB397_329 := Ng_ hg BK329; have NB340_397 := Nl_ hg BK340; have NB397_340 := Ng_ hg BK340; have NB386_397 := Nl_ hg BK386; have NB397_386 := Ng_ hg BK386; replace HO_330001 := Rb_ HO_330001 hb; replace HO_330002 := Rb_ HO_330002 hb; replace HO_341001 := Rb_ HO_341001 hb; replace HO_341002 := Rb_ HO_341002 hb; replace HO381 := Rb_ HO381 hb; replace HO384 := Rb_ HO384 hb; replace HO392 := Rb_ HO392 hb; replace HO395 := Rb_ HO395 hb; replace BK320 := Bb_ BK320 hb; replace BK329 := Bb_ BK329 hb; replace BK340 := Bb_ BK340 hb; replace BK386 := Bb_ BK386 hb; replace HB := Ls_ HB hb; clear hb hbox hg; have hnb340 := NB397_320.out; have hnc340 := NB320_397.out; have hnb341 := NB397_329.out; have hnc341 := NB329_397.out; have hnb342 := NB397_340.out; have hnc342 := NB340_397.out; have hnb343 := NB397_386.out; have hnc343 := NB386_397.out; have hcz344_0 : w339.cell? ⟨gb397, 0, none⟩ = some (.int .i64 0) := (blk_cell BK397.out 0).trans rfl; have hcz344_1 : w339.cell? ⟨gb397, 1, none⟩ = some (.slice none 0 0) := (blk_cell BK397.out 1).trans rfl; have hcz344_2 : w339.cell? ⟨gb397, 2, none⟩ = some (.slice none 0 0) := (blk_cell BK397.out 2).trans rfl; have hfz344_0 := blk_frozen BK397.out 0; have hfz344_1 := blk_frozen BK397.out 1; have hfz344_2 := blk_frozen BK397.out 2; obtain ⟨Ao345, co345, eo345⟩ := Kd.R_slice HO392.out; subst eo345; obtain ⟨Ao346, co346, eo346⟩ := Kd.R_slice HO395.out; subst eo346; have hcz347_0 : w339.cell? ⟨gb320, 0, none⟩ = some (.int .i64 a1_0) := (blk_cell BK320.out 0).trans rfl; have hcz347_1 : w339.cell? ⟨gb320, 1, none⟩ = some (.int .i64 a1_1) := (blk_cell BK320.out 1).trans rfl; have hcz347_2 : w339.cell? ⟨gb320, 2, none⟩ = some (.int .i64 a1_2) := (blk_cell BK320.out 2).trans rfl; have hcz347_3 : w339.cell? ⟨gb320, 3, none⟩ = some (.int .i64 a1_3) := (blk_cell BK320.out 3).trans rfl; have hcz347_4 : w339.cell? ⟨gb320, 4, none⟩ = some (.int .i64 a1_4) := (blk_cell BK320.out 4).trans rfl; have hcz347_5 : w339.cell? ⟨gb320, 5, none⟩ = some (.int .i64 a1_5) := (blk_cell BK320.out 5).trans rfl; have hcz347_6 : w339.cell? ⟨gb320, 6, none⟩ = some (.bool a1_6) := (blk_cell BK320.out 6).trans rfl; have hfz347_0 := blk_frozen BK320.out 0; have hfz347_1 := blk_frozen BK320.out 1; have hfz347_2 := blk_frozen BK320.out 2; have hfz347_3 := blk_frozen BK320.out 3; have hfz347_4 := blk_frozen BK320.out 4; have hfz347_5 := blk_frozen BK320.out 5; have hfz347_6 := blk_frozen BK320.out 6) | ((with_reducible refine gate_callee (f := 15) rfl ?_); refine goesL_ (some 159) rfl rfl Try.func15 (by kernel_rfl) rfl #[.agg #[.int .i64 t389, .slice Ao345 t390.length co345, .slice Ao346 t393.length co346], .int .i64 a1_1] rfl M_ ?_; (with_reducible refine (vtimer_Sleeps.calls kj9 t389 _ _ t390 _ _ t393 a1_1 t398 false _ ?side1 ?side2 ?side3 ?side4 A264.out).mono ?_); (case side1 => refine (Kd.R_reads' (e := 88) (base := w.heap.size) (ok := fun k_ => (((True ∧ some k_ ≠ (.slice Ao21 t323.length co21 : Value).ownBlock) ∧ some k_ ≠ (.slice Ao30 t333.length co30 : Value).ownBlock) ∧ some k_ ≠ (.slice Ao324 t379.length co324 : Value).ownBlock)) (n := t390.length) (c := co345) ?_).2.2; exact (Rf_ HO392 BK397)); (case side2 => exact (Kd.R_reads' HO392.out).2.1); (case side3 => refine (Kd.R_reads' (e := 47) (base := w.heap.size) (ok := fun k_ => (((True ∧ some k_ ≠ (.slice Ao22 t326.length co22 : Value).ownBlock) ∧ some k_ ≠ (.slice Ao32 t336.length co32 : Value).ownBlock) ∧ some k_ ≠ (.slice Ao326 t382.length co326 : Value).ownBlock)) (n := t393.length) (c := co346) ?_).2.2; exact (Rf_ HO395 BK397)); (case side4 => exact (Kd.R_reads' HO395.out).2.1); rintro e w348 ⟨rfl, hb⟩; refine ⟨_, rfl, ?_⟩; replace HO_330001 := Aside0.mk (Kd.R_below (Rf_ HO_330001 BK397) hb); replace HO_330002 := Aside0.mk (Kd.R_below (Rf_ HO_330002 BK397) hb); replace HO_341001 := Aside0.mk (Kd.R_below (Rf_ HO_341001 BK397) hb); replace HO_341002 := Aside0.mk (Kd.R_below (Rf_ HO_341002 BK397) hb); replace HO381 := Aside0.mk (Kd.R_below (Rf_ HO381 BK397) hb); replace HO384 := Aside0.mk (Kd.R_below (Rf_ HO384 BK397) hb); replace HO392 := Aside0.mk (Kd.R_below (Rf_ HO392 BK397) hb); replace HO395 := Aside0.mk (Kd.R_below (Rf_ HO395 BK397) hb); replace BK320 := Aside0.mk (blk_below (Bz_ BK320) hb); replace BK329 := Aside0.mk (blk_below (Bz_ BK329) hb); replace BK340 := Aside0.mk (blk_below (Bz_ BK340) hb); replace BK386 := Aside0.mk (blk_below (Bz_ BK386) hb); replace BK397 := Aside0.mk (blk_below (g := gb397) (o := .cells #[.int .i64 t389, .slice Ao345 t390.length co345, .slice Ao346 t393.length co346] 27 (0, 0)) (by (with_reducible repeat (first | refine blk_drewN ?_ _ | refine blk_drew ?_ | refine blk_alloc ?_ _)); refine blk_put (cs := #[.int .i64 t389, .slice Ao345 t390.length co345, .slice none 0 0]) ?_ 2 _ rfl; (with_reducible repeat (first | refine blk_drewN ?_ _ | refine blk_drew ?_ | refine blk_alloc ?_ _)); refine blk_put (cs := #[.int .i64 t389, .slice none 0 0, .slice none 0 0]) ?_ 1 _ rfl; (with_reducible repeat (first | refine blk_drewN ?_ _ | refine blk_drew ?_ | refine blk_alloc ?_ _)); refine blk_put (cs := #[.int .i64 0, .slice none 0 0, .slice none 0 0]) ?_ 0 _ rfl; (with_reducible repeat (first | refine blk_drewN ?_ _ | refine blk_drew ?_ | refine blk_alloc ?_ _)); exact BK397.out) hb); replace HB := Ls_ HB hb; (try clear hb); (try clear hb2); (try clear hk); (try clear hi); have hcz349_0 : w348.cell? ⟨gb397, 0, none⟩ = some (.int .i64 t389) := (blk_cell BK397.out 0).trans rfl; have hcz349_1 : w348.cell? ⟨gb397, 1, none⟩ = some (.slice Ao345 t390.length co345) := (blk_cell BK397.out 1).trans rfl; have hcz349_2 : w348.cell? ⟨gb397, 2, none⟩ = some (.slice Ao346 t393.length co346) := (blk_cell BK397.out 2).trans rfl; have hfz349_0 := blk_frozen BK397.out 0; have hfz349_1 := blk_frozen BK397.out 1; have hfz349_2 := blk_frozen BK397.out 2; have hcz350_0 : w348.cell? ⟨gb320, 0, none⟩ = some (.int .i64 a1_0) := (blk_cell BK320.out 0).trans rfl; have hcz350_1 : w348.cell? ⟨gb320, 1, none⟩ = some (.int .i64 a1_1) := (blk_cell BK320.out 1).trans rfl; have hcz350_2 : w348.cell? ⟨gb320, 2, none⟩ = some (.int .i64 a1_2) := (blk_cell BK320.out 2).trans rfl; have hcz350_3 : w348.cell? ⟨gb320, 3, none⟩ = some (.int .i64 a1_3) := (blk_cell BK320.out 3).trans rfl; have hcz350_4 : w348.cell? ⟨gb320, 4, none⟩ = some (.int .i64 a1_4) := (blk_cell BK320.out 4).trans rfl; have hcz350_5 : w348.cell? ⟨gb320, 5, none⟩ = some (.int .i64 a1_5) := (blk_cell BK320.out 5).trans rfl; have hcz350_6 : w348.cell? ⟨gb320, 6, none⟩ = some (.bool a1_6) := (blk_cell BK320.out 6).trans rfl; have hfz350_0 := blk_frozen BK320.out 0; have hfz350_1 := blk_frozen BK320.out 1; have hfz350_2 := blk_frozen BK320.out 2; have hfz350_3 := blk_frozen BK320.out 3; have hfz350_4 := blk_frozen BK320.out 4; have hfz350_5 := blk_frozen BK320.out 5; have hfz350_6 := blk_frozen BK320.out 6) | ((with_reducible refine gate_callee (f := 25) rfl ?_); refine goesL_ (some 166) rfl rfl Try.func25 (by kernel_rfl) rfl #[.agg #[.int .i64 t389, .slice Ao345 t390.length co345, .slice Ao346 t393.length co346], .int .i64 a1_1] rfl M_ ?_; (with_reducible refine (vtimer_Wake.calls t389 _ _ t390 _ _ t393 a1_1 t400 t401 t404 t407 _ ?side1 ?side2 ?side3 ?side4 A265.out).mono ?_); (case side1 => exact Rs_ HO392); (case side2 => exact (Kd.R_reads' HO392.out).2.1); (case side3 => exact Rs_ HO395); (case side4 => exact (Kd.R_reads' HO395.out).2.1); rintro e w351 ⟨v402, v405, rfl, ho0, ho1, hb⟩; refine ⟨_, rfl, ?_⟩; have HO403 := Aside0.mk (Kd.R_lower (Kd.R_new' (Kd.R_new' (Kd.R_new' (Kd.R_new' ho0 (Kd.R_lt (R_ HO_330001))) (Kd.R_lt (R_ HO_341001))) (Kd.R_lt (R_ HO381))) (Kd.R_lt (R_ HO392))) (below_size L_)); have HO406 := Aside0.mk (Kd.R_lower (Kd.R_new' (Kd.R_new' (Kd.R_new' (Kd.R_new' ho1 (Kd.R_lt (R_ HO_330002))) (Kd.R_lt (R_ HO_341002))) (Kd.R_lt (R_ HO384))) (Kd.R_lt (R_ HO395))) (below_size L_)); replace HO_330001 := Aside0.mk (Kd.R_elder' (R_ HO_330001) (Kd.R_base ho0) hb); replace HO_330002 := Aside0.mk (Kd.R_elder' (R_ HO_330002) (Kd.R_base ho1) hb); replace HO_341001 := Aside0.mk (Kd.R_elder' (R_ HO_341001) (Kd.R_base ho0) hb); replace HO_341002 := Aside0.mk (Kd.R_elder' (R_ HO_341002) (Kd.R_base ho1) hb); replace HO381 := Aside0.mk (Kd.R_elder' (R_ HO381) (Kd.R_base ho0) hb); replace HO384 := Aside0.mk (Kd.R_elder' (R_ HO384) (Kd.R_base ho1) hb); replace HO392 := Aside0.mk (Kd.R_elder' (R_ HO392) (Kd.R_base ho0) hb); replace HO395 := Aside0.mk (Kd.R_elder' (R_ HO395) (Kd.R_base ho1) hb); replace BK320 := Bb_ BK320 hb; replace BK329 := Bb_ BK329 hb; replace BK340 := Bb_ BK340 hb; replace BK386 := Bb_ BK386 hb; replace BK397 := Bb_ BK397 hb; replace HB := Ls_ HB hb; (try clear hb); (try clear hb2); (try clear hk); (try clear hi); (try clear ho0); (try clear ho1)) | ((with_reducible refine gate_dst (N := 28) rfl ?_); refine box_ 28 27 #[.int .i64 0, .slice none 0 0, .slice none 0 0] ?_; intro gb408 hg w352 hbox hb; have BK408 := Aside0.mk (hbox); have GW408 := G_ hg HB; have GE408 := G_ hg HB; have NB320_408 := Nl_ hg BK320; have NB408_320 := Ng_ hg BK320; have NB329_408 := Nl_ hg BK329; have NB408_329 := Ng_ hg BK329; have NB340_408 := Nl_ hg BK340; have NB408_340 := Ng_ hg BK340; have NB386_408 := Nl_ hg BK386; have NB408_386 := Ng_ hg BK386; have NB397_408 := Nl_ hg BK397; have NB408_397 := Ng_ hg BK397; replace HO_330001 := Rb_ HO_330001 hb; replace HO_330002 := Rb_ HO_330002 hb; replace HO_341001 := Rb_ HO_341001 hb; replace HO_341002 := Rb_ HO_341002 hb; replace HO381 := Rb_ HO381 hb; replace HO384 := Rb_ HO384 hb; replace HO392 := Rb_ HO392 hb; replace HO395 := Rb_ HO395 hb; replace HO403 := Rb_ HO403 hb; replace HO406 := Rb_ HO406 hb; replace BK320 := Bb_ BK320 hb; replace BK329 := Bb_ BK329 hb; replace BK340 := Bb_ BK340 hb; replace BK386 := Bb_ BK386 hb; replace BK397 := Bb_ BK397 hb; replace HB := Ls_ HB hb; clear hb hbox hg; have hnb353 := NB408_320.out; have hnc353 := NB320_408.out; have hnb354 := NB408_329.out; have hnc354 := NB329_408.out; have hnb355 := NB408_340.out; have hnc355 := NB340_408.out; have hnb356 := NB408_386.out; have hnc356 := NB386_408.out; have hnb357 := NB408_397.out; have hnc357 := NB397_408.out; have hcz358_0 : w352.cell? ⟨gb408, 0, none⟩ = some (.int .i64 0) := (blk_cell BK408.out 0).trans rfl; have hcz358_1 : w352.cell? ⟨gb408, 1, none⟩ = some (.slice none 0 0) := (blk_cell BK408.out 1).trans rfl; have hcz358_2 : w352.cell? ⟨gb408, 2, none⟩ = some (.slice none 0 0) := (blk_cell BK408.out 2).trans rfl; have hfz358_0 := blk_frozen BK408.out 0; have hfz358_1 := blk_frozen BK408.out 1; have hfz358_2 := blk_frozen BK408.out 2; obtain ⟨Ao359, co359, eo359⟩ := Kd.R_slice HO403.out; subst eo359; obtain ⟨Ao360, co360, eo360⟩ := Kd.R_slice HO406.out; subst eo360; have hcz361_0 : w352.cell? ⟨gb320, 0, none⟩ = some (.int .i64 a1_0) := (blk_cell BK320.out 0).trans rfl; have hcz361_1 : w352.cell? ⟨gb320, 1, none⟩ = some (.int .i64 a1_1) := (blk_cell BK320.out 1).trans rfl; have hcz361_2 : w352.cell? ⟨gb320, 2, none⟩ = some (.int .i64 a1_2) := (blk_cell BK320.out 2).trans rfl; have hcz361_3 : w352.cell? ⟨gb320, 3, none⟩ = some (.int .i64 a1_3) := (blk_cell BK320.out 3).trans rfl; have hcz361_4 : w352.cell? ⟨gb320, 4, none⟩ = some (.int .i64 a1_4) := (blk_cell BK320.out 4).trans rfl; have hcz361_5 : w352.cell? ⟨gb320, 5, none⟩ = some (.int .i64 a1_5) := (blk_cell BK320.out 5).trans rfl; have hcz361_6 : w352.cell? ⟨gb320, 6, none⟩ = some (.bool a1_6) := (blk_cell BK320.out 6).trans rfl; have hfz361_0 := blk_frozen BK320.out 0; have hfz361_1 := blk_frozen BK320.out 1; have hfz361_2 := blk_frozen BK320.out 2; have hfz361_3 := blk_frozen BK320.out 3; have hfz361_4 := blk_frozen BK320.out 4; have hfz361_5 := blk_frozen BK320.out 5; have hfz361_6 := blk_frozen BK320.out 6; have hnb362 := NB329_340.out; have hnc362 := NB340_329.out; have hcz363_0 : w352.cell? ⟨gb329, 0, none⟩ = some (.int .i64 t322) := (blk_cell BK329.out 0).trans rfl; have hcz363_1 : w352.cell? ⟨gb329, 1, none⟩ = some (.slice Ao21 t323.length co21) := (blk_cell BK329.out 1).trans rfl; have hcz363_2 : w352.cell? ⟨gb329, 2, none⟩ = some (.slice Ao22 t326.length co22) := (blk_cell BK329.out 2).trans rfl; have hfz363_0 := blk_frozen BK329.out 0; have hfz363_1 := blk_frozen BK329.out 1; have hfz363_2 := blk_frozen BK329.out 2) | (go_at_call 22; (with_reducible refine (mainsheetlaw18_Op_time.calls a1_0 a1_1 a1_2 a1_3 a1_4 a1_5 a1_6 t322 _ _ t323 _ _ t326 t409 _ ?side1 ?side2 ?side3 ?side4 A267.out).mono ?_); (case side1 => refine (Kd.R_reads' (e := 88) (base := w.heap.size) (ok := fun k_ => (((some k_ ≠ (.slice Ao324 t379.length co324 : Value).ownBlock ∧ some k_ ≠ (.slice Ao30 t333.length co30 : Value).ownBlock) ∧ some k_ ≠ (.slice Ao345 t390.length co345 : Value).ownBlock) ∧ some k_ ≠ (.slice Ao359 t401.length co359 : Value).ownBlock)) (n := t323.length) (c := co21) ?_).2.2; exact (Rf_ HO_330001 BK408)); (case side2 => exact (Kd.R_reads' HO_330001.out).2.1); (case side3 => refine (Kd.R_reads' (e := 47) (base := w.heap.size) (ok := fun k_ => (((some k_ ≠ (.slice Ao326 t382.length co326 : Value).ownBlock ∧ some k_ ≠ (.slice Ao32 t336.length co32 : Value).ownBlock) ∧ some k_ ≠ (.slice Ao346 t393.length co346 : Value).ownBlock) ∧ some k_ ≠ (.slice Ao360 t404.length co360 : Value).ownBlock)) (n := t326.length) (c := co22) ?_).2.2; exact (Rf_ HO_330002 BK408)); (case side4 => exact (Kd.R_reads' HO_330002.out).2.1); rintro e w364 ⟨rfl, hb⟩; replace HO_330001 := Aside0.mk (Kd.R_below (Rf_ HO_330001 BK408) hb); replace HO_330002 := Aside0.mk (Kd.R_below (Rf_ HO_330002 BK408) hb); replace HO_341001 := Aside0.mk (Kd.R_below (Rf_ HO_341001 BK408) hb); replace HO_341002 := Aside0.mk (Kd.R_below (Rf_ HO_341002 BK408) hb); replace HO381 := Aside0.mk (Kd.R_below (Rf_ HO381 BK408) hb); replace HO384 := Aside0.mk (Kd.R_below (Rf_ HO384 BK408) hb); replace HO392 := Aside0.mk (Kd.R_below (Rf_ HO392 BK408) hb); replace HO395 := Aside0.mk (Kd.R_below (Rf_ HO395 BK408) hb); replace HO403 := Aside0.mk (Kd.R_below (Rf_ HO403 BK408) hb); replace HO406 := Aside0.mk (Kd.R_below (Rf_ HO406 BK408) hb); replace BK320 := Aside0.mk (blk_below (Bz_ BK320) hb); replace BK329 := Aside0.mk (blk_below (Bz_ BK329) hb); replace BK340 := Aside0.mk (blk_below (Bz_ BK340) hb); replace BK386 := Aside0.mk (blk_below (Bz_ BK386) hb); replace BK397 := Aside0.mk (blk_below (Bz_ BK397) hb); replace BK408 := Aside0.mk (blk_below (g := gb408) (o := .cells #[.int .i64 t400, .slice Ao359 t401.length co359, .slice Ao360 t404.length co360] 27 (0, 0)) (by (with_reducible repeat (first | refine blk_drewN ?_ _ | refine blk_drew ?_ | refine blk_alloc ?_ _)); refine blk_put (cs := #[.int .i64 t400, .slice Ao359 t401.length co359, .slice none 0 0]) ?_ 2 _ rfl; (with_reducible repeat (first | refine blk_drewN ?_ _ | refine blk_drew ?_ | refine blk_alloc ?_ _)); refine blk_put (cs := #[.int .i64 t400, .slice none 0 0, .slice none 0 0]) ?_ 1 _ rfl; (with_reducible repeat (first | refine blk_drewN ?_ _ | refine blk_drew ?_ | refine blk_alloc ?_ _)); refine blk_put (cs := #[.int .i64 0, .slice none 0 0, .slice none 0 0]) ?_ 0 _ rfl; (with_reducible repeat (first | refine blk_drewN ?_ _ | refine blk_drew ?_ | refine blk_alloc ?_ _)); exact BK408.out) hb); replace HB := Ls_ HB hb; (try clear hb); (try clear hb2); (try clear hk); (try clear hi)))
                 go_ret
                 exact ⟨E_, L_⟩
             · rw [if_neg c269] at H
               have c269b0 : (t396 == 0) = false := beq_eq_false_iff_ne.mpr c269
               have c269b1 : (t396 != 0) = true := bne_iff_ne.mpr c269
               exact absurd ((Option.some.inj H).trans hr_) (by decide) -- leaf 5
           · rw [if_neg c268] at H
             have c268b0 : (t387 == t409) = false := beq_eq_false_iff_ne.mpr c268
             have c268b1 : (t387 != t409) = true := bne_iff_ne.mpr c268
             exact absurd ((Option.some.inj H).trans hr_) (by decide) -- leaf 6
         · replace c266 := Bool.eq_false_iff.mpr c266
           subst c266
           have H1 : (some false) = some r := by rw [if_neg (show ¬ (false = true) by decide)] at H; exact H
           clear H
           have H := H1
           clear H1
           exact absurd ((Option.some.inj H).trans hr_) (by decide) -- leaf 7
       · rw [if_neg c261] at H
         have c261b0 : (t385 == 0) = false := beq_eq_false_iff_ne.mpr c261
         have c261b1 : (t385 != 0) = true := bne_iff_ne.mpr c261
         obtain rfl := Option.some.inj H
         try go_wp2
         have n0_ := Aside0.mk (Kd.R_drew HO_330001.out)
         have n1_ := Aside0.mk (Kd.R_drew HO_330002.out)
         have n2_ := Aside0.mk (Kd.R_drew HO_341001.out)
         have n3_ := Aside0.mk (Kd.R_drew HO_341002.out)
         have n4_ := Aside0.mk (blk_drew BK320.out)
         have n5_ := Aside0.mk (blk_drew BK329.out)
         have n6_ := Aside0.mk (blk_drew BK340.out)
         have n7_ := Aside0.mk (below_drew1 HB.out)
         clear HO_330001
         clear HO_330002
         clear HO_341001
         clear HO_341002
         clear BK320
         clear BK329
         clear BK340
         clear HB
         have HO_330001 := n0_
         have HO_330002 := n1_
         have HO_341001 := n2_
         have HO_341002 := n3_
         have BK320 := n4_
         have BK329 := n5_
         have BK340 := n6_
         have HB := n7_
         clear n0_ n1_ n2_ n3_ n4_ n5_ n6_ n7_
         refine st_ 13 (fun w' => w'.cell? ⟨gb329, 0, none⟩ = some (.int .i64 t322) ∧ w'.cell? ⟨gb329, 1, none⟩ = some (.slice Ao21 t323.length co21) ∧ w'.cell? ⟨gb329, 2, none⟩ = some (.slice Ao22 t326.length co22) ∧ w'.cell? ⟨gb320, 0, none⟩ = some (.int .i64 a1_0) ∧ w'.cell? ⟨gb320, 1, none⟩ = some (.int .i64 a1_1) ∧ w'.cell? ⟨gb320, 2, none⟩ = some (.int .i64 a1_2) ∧ w'.cell? ⟨gb320, 3, none⟩ = some (.int .i64 a1_3) ∧ w'.cell? ⟨gb320, 4, none⟩ = some (.int .i64 a1_4) ∧ w'.cell? ⟨gb320, 5, none⟩ = some (.int .i64 a1_5) ∧ w'.cell? ⟨gb320, 6, none⟩ = some (.bool a1_6)) [] ⟨(blk_cell BK329.out 0).trans rfl, (blk_cell BK329.out 1).trans rfl, (blk_cell BK329.out 2).trans rfl, (blk_cell BK320.out 0).trans rfl, (blk_cell BK320.out 1).trans rfl, (blk_cell BK320.out 2).trans rfl, (blk_cell BK320.out 3).trans rfl, (blk_cell BK320.out 4).trans rfl, (blk_cell BK320.out 5).trans rfl, (blk_cell BK320.out 6).trans rfl⟩ (fun hHeld => ?_); refine with_tabW mainsheetlaw18_VtimerStops.tab20 mainsheetlaw18_VtimerStops.bits20 (fun HT_ HW_ => ?_)
         generalize wc.drew = w502 at HO_330001 HO_330002 HO_341001 HO_341002 BK320 BK329 BK340 HB hHeld ⊢
         refine pu_ 1 127 HT_ ?_
         refine ta_ 0 126 HT_ HW_ rfl rfl hHeld (by rintro w' ⟨s0, s1, s2, s3, s4, s5, s6, s7, s8, s9⟩; go_simp; with_reducible rfl) ?_
         refine ta_ 2 128 HT_ HW_ rfl rfl hHeld (by rintro w' ⟨s0, s1, s2, s3, s4, s5, s6, s7, s8, s9⟩; go_simp; with_reducible rfl) ?_
         refine ta_ 3 129 HT_ HW_ rfl rfl hHeld (by rintro w' ⟨s0, s1, s2, s3, s4, s5, s6, s7, s8, s9⟩; go_simp; with_reducible rfl) ?_
         refine ta_ 4 130 HT_ HW_ rfl rfl hHeld (by rintro w' ⟨s0, s1, s2, s3, s4, s5, s6, s7, s8, s9⟩; go_simp; with_reducible rfl) ?_
         refine join_ (σ := Value × Value × Nat) 2 #[true, true, true, true, true, true, true, true, true, true, true, false, false] (fun s_ => [(131, .int .i64 t377), (132, .tuple #[.agg #[.int .i64 t378, s_.1, s_.2.1], .int .i64 t385]), (21, .pointer (some ⟨s_.2.2, 0, none⟩)), (125, .tuple #[.agg #[.int .i64 t378, s_.1, s_.2.1], .int .i64 t385]), (133, .agg #[.int .i64 t378, s_.1, s_.2.1]), (134, .int .i64 t385)]) (fun s_ w' => (w'.cell? ⟨gb329, 0, none⟩ = some (.int .i64 t322) ∧ w'.cell? ⟨gb329, 1, none⟩ = some (.slice Ao21 t323.length co21) ∧ w'.cell? ⟨gb329, 2, none⟩ = some (.slice Ao22 t326.length co22) ∧ w'.cell? ⟨gb320, 0, none⟩ = some (.int .i64 a1_0) ∧ w'.cell? ⟨gb320, 1, none⟩ = some (.int .i64 a1_1) ∧ w'.cell? ⟨gb320, 2, none⟩ = some (.int .i64 a1_2) ∧ w'.cell? ⟨gb320, 3, none⟩ = some (.int .i64 a1_3) ∧ w'.cell? ⟨gb320, 4, none⟩ = some (.int .i64 a1_4) ∧ w'.cell? ⟨gb320, 5, none⟩ = some (.int .i64 a1_5) ∧ w'.cell? ⟨gb320, 6, none⟩ = some (.bool a1_6)) ∧ (Kd.R k88 88 w' w.heap.size (fun k_ => some k_ ≠ (.slice Ao21 t323.length co21 : Value).ownBlock ∧ some k_ ≠ (.slice Ao30 t333.length co30 : Value).ownBlock) s_.1 t379) ∧ (Kd.R k47 47 w' w.heap.size (fun k_ => some k_ ≠ (.slice Ao22 t326.length co22 : Value).ownBlock ∧ some k_ ≠ (.slice Ao32 t336.length co32 : Value).ownBlock) s_.2.1 t382) ∧ (Kd.R k88 88 w' w.heap.size (fun k_ => some k_ ≠ (s_.1 : Value).ownBlock ∧ some k_ ≠ (.slice Ao30 t333.length co30 : Value).ownBlock) (.slice Ao21 t323.length co21) t323) ∧ (Kd.R k47 47 w' w.heap.size (fun k_ => some k_ ≠ (s_.2.1 : Value).ownBlock ∧ some k_ ≠ (.slice Ao32 t336.length co32 : Value).ownBlock) (.slice Ao22 t326.length co22) t326) ∧ (Kd.R k88 88 w' w.heap.size (fun k_ => some k_ ≠ (s_.1 : Value).ownBlock ∧ some k_ ≠ (.slice Ao21 t323.length co21 : Value).ownBlock) (.slice Ao30 t333.length co30) t333) ∧ (Kd.R k47 47 w' w.heap.size (fun k_ => some k_ ≠ (s_.2.1 : Value).ownBlock ∧ some k_ ≠ (.slice Ao22 t326.length co22 : Value).ownBlock) (.slice Ao32 t336.length co32) t336) ∧ (w'.heap[gb320]? = some (.cells #[.int .i64 a1_0, .int .i64 a1_1, .int .i64 a1_2, .int .i64 a1_3, .int .i64 a1_4, .int .i64 a1_5, .bool a1_6] 58 (0, 0))) ∧ (w'.heap[gb329]? = some (.cells #[.int .i64 t322, .slice Ao21 t323.length co21, .slice Ao22 t326.length co22] 27 (0, 0))) ∧ (w'.heap[gb340]? = some (.cells #[.int .i64 t332, .slice Ao30 t333.length co30, .slice Ao32 t336.length co32] 27 (0, 0))) ∧ (w'.heap[s_.2.2]? = some (.cells #[.int .i64 0, .slice none 0 0, .slice none 0 0] 27 (0, 0))) ∧ (w.heap.size ≤ s_.2.2) ∧ (w.heap.size ≤ s_.2.2) ∧ (gb320 ≠ s_.2.2) ∧ (s_.2.2 ≠ gb320) ∧ (gb329 ≠ s_.2.2) ∧ (s_.2.2 ≠ gb329) ∧ (gb340 ≠ s_.2.2) ∧ (s_.2.2 ≠ gb340) ∧ (Below w.heap.size w w')) ?_ ?_
         rotate_left
         · intro hCont
           refine two_ (i := 5) (j := 10) (Ni := some 131) (Nj := some 21) #[true, true, true, true, true, true, false, false, false, false, false, false, false] #[true, true, true, true, true, false, false, false, false, false, true, false, false] rfl rfl rfl rfl (two_of HT_.out (by kernel_rfl)) (by decide) (by decide) (fun K hK => ?_) (fun K hK => ?_)
           · skip
             refine goes_ Try.func22 (by kernel_rfl) rfl #[.agg #[.int .i64 a1_0, .int .i64 a1_1, .int .i64 a1_2, .int .i64 a1_3, .int .i64 a1_4, .int .i64 a1_5, .bool a1_6], .agg #[.int .i64 t322, .slice Ao21 t323.length co21, .slice Ao22 t326.length co22]] (by rfl) rfl rfl M_ ?_
             with_reducible refine (mainsheetlaw18_Op_time.calls a1_0 a1_1 a1_2 a1_3 a1_4 a1_5 a1_6 t322 _ _ t323 _ _ t326 t377 _ ?side1 ?side2 ?side3 ?side4 A259.out).mono ?_
             (case side1 => exact Rs_ HO_330001)
             (case side2 => exact (Kd.R_reads' HO_330001.out).2.1)
             (case side3 => exact Rs_ HO_330002)
             (case side4 => exact (Kd.R_reads' HO_330002.out).2.1)
             rintro e w503 ⟨rfl, hb⟩
             refine ⟨_, rfl, ?_⟩
             have n0_ := Rb_ HO_330001 hb
             have n1_ := Rb_ HO_330002 hb
             have n2_ := Rb_ HO_341001 hb
             have n3_ := Rb_ HO_341002 hb
             have n4_ := Bb_ BK320 hb
             have n5_ := Bb_ BK329 hb
             have n6_ := Bb_ BK340 hb
             have n7_ := Ls_ HB hb
             clear HO_330001
             clear HO_330002
             clear HO_341001
             clear HO_341002
             clear BK320
             clear BK329
             clear BK340
             clear HB
             have HO_330001 := n0_
             have HO_330002 := n1_
             have HO_341001 := n2_
             have HO_341002 := n3_
             have BK320 := n4_
             have BK329 := n5_
             have BK340 := n6_
             have HB := n7_
             clear n0_ n1_ n2_ n3_ n4_ n5_ n6_ n7_
             (try clear hb)
             (try clear hb2)
             (try clear hk)
             (try clear hi)
             refine hK.out _ _ ⟨(blk_cell BK329.out 0).trans rfl, (blk_cell BK329.out 1).trans rfl, (blk_cell BK329.out 2).trans rfl, (blk_cell BK320.out 0).trans rfl, (blk_cell BK320.out 1).trans rfl, (blk_cell BK320.out 2).trans rfl, (blk_cell BK320.out 3).trans rfl, (blk_cell BK320.out 4).trans rfl, (blk_cell BK320.out 5).trans rfl, (blk_cell BK320.out 6).trans rfl⟩ (fun hHeld => ?_)
             clear hK K
             refine nm_ 131 ?_
             refine two_ (i := 6) (j := 10) (Ni := some 132) (Nj := some 21) #[true, true, true, true, true, true, true, false, false, false, false, false, false] #[true, true, true, true, true, true, false, false, false, false, true, false, false] rfl rfl rfl rfl (two_of HT_.out (by kernel_rfl)) (by decide) (by decide) (fun K hK => ?_) (fun K hK => ?_)
             · skip
               refine goes_ Try.func24 (by kernel_rfl) rfl #[.agg #[.int .i64 t322, .slice Ao21 t323.length co21, .slice Ao22 t326.length co22], .int .i64 a1_1, .int .i64 t377] (by rfl) rfl rfl M_ ?_
               with_reducible refine (vtimer_Sleep.calls t322 _ _ t323 _ _ t326 a1_1 t377 t378 t379 t382 t385 _ ?side1 ?side2 ?side3 ?side4 A260.out).mono ?_
               (case side1 => exact Rs_ HO_330001)
               (case side2 => exact (Kd.R_reads' HO_330001.out).2.1)
               (case side3 => exact Rs_ HO_330002)
               (case side4 => exact (Kd.R_reads' HO_330002.out).2.1)
               rintro e w504 ⟨v380, v383, rfl, ho0, ho1, hb⟩
               refine ⟨_, rfl, ?_⟩
               have n0_ := Aside0.mk (Kd.R_elder' (R_ HO_330001) (Kd.R_base ho0) hb)
               have n1_ := Aside0.mk (Kd.R_elder' (R_ HO_330002) (Kd.R_base ho1) hb)
               have n2_ := Aside0.mk (Kd.R_elder' (R_ HO_341001) (Kd.R_base ho0) hb)
               have n3_ := Aside0.mk (Kd.R_elder' (R_ HO_341002) (Kd.R_base ho1) hb)
               have n4_ := Aside0.mk (Kd.R_lower (Kd.R_new' (Kd.R_new' ho0 (Kd.R_lt (R_ HO_330001))) (Kd.R_lt (R_ HO_341001))) (below_size L_))
               have n5_ := Aside0.mk (Kd.R_lower (Kd.R_new' (Kd.R_new' ho1 (Kd.R_lt (R_ HO_330002))) (Kd.R_lt (R_ HO_341002))) (below_size L_))
               have n6_ := Bb_ BK320 hb
               have n7_ := Bb_ BK329 hb
               have n8_ := Bb_ BK340 hb
               have n9_ := Ls_ HB hb
               clear HO_330001
               clear HO_330002
               clear HO_341001
               clear HO_341002
               clear BK320
               clear BK329
               clear BK340
               clear HB
               have HO_330001 := n0_
               have HO_330002 := n1_
               have HO_341001 := n2_
               have HO_341002 := n3_
               have HO381 := n4_
               have HO384 := n5_
               have BK320 := n6_
               have BK329 := n7_
               have BK340 := n8_
               have HB := n9_
               clear n0_ n1_ n2_ n3_ n4_ n5_ n6_ n7_ n8_ n9_
               (try clear hb)
               (try clear hb2)
               (try clear hk)
               (try clear hi)
               (try clear ho0)
               (try clear ho1)
               refine hK.out _ _ ⟨(blk_cell BK329.out 0).trans rfl, (blk_cell BK329.out 1).trans rfl, (blk_cell BK329.out 2).trans rfl, (blk_cell BK320.out 0).trans rfl, (blk_cell BK320.out 1).trans rfl, (blk_cell BK320.out 2).trans rfl, (blk_cell BK320.out 3).trans rfl, (blk_cell BK320.out 4).trans rfl, (blk_cell BK320.out 5).trans rfl, (blk_cell BK320.out 6).trans rfl⟩ (fun hHeld => ?_)
               clear hK K
               refine nm_ 132 ?_
               refine pu_ 7 125 HT_ ?_
               refine pu_ 8 133 HT_ ?_
               refine pu_ 9 134 HT_ ?_
               refine on_ 10 21 HT_ rfl rfl (fun K hK => ?_)
               refine box_step ?hg (N := 21) ?hd (cs := #[.int .i64 0, .slice none 0 0, .slice none 0 0]) (t := 27) ?hr ?_; (case hd => rfl); (case hg => rfl); (case hr => first | (go_simp; done) | (go_simp; rfl))
               intro gb386 hg w505 hbox hb
               have n0_ := Rb_ HO_330001 hb
               have n1_ := Rb_ HO_330002 hb
               have n2_ := Rb_ HO_341001 hb
               have n3_ := Rb_ HO_341002 hb
               have n4_ := Rb_ HO381 hb
               have n5_ := Rb_ HO384 hb
               have n6_ := Bb_ BK320 hb
               have n7_ := Bb_ BK329 hb
               have n8_ := Bb_ BK340 hb
               have n9_ := Ls_ HB hb
               have n10_ := Aside0.mk (hbox)
               have n11_ := G_ hg HB
               have n12_ := G_ hg HB
               have n13_ := Nl_ hg BK320
               have n14_ := Ng_ hg BK320
               have n15_ := Nl_ hg BK329
               have n16_ := Ng_ hg BK329
               have n17_ := Nl_ hg BK340
               have n18_ := Ng_ hg BK340
               clear HO_330001
               clear HO_330002
               clear HO_341001
               clear HO_341002
               clear HO381
               clear HO384
               clear BK320
               clear BK329
               clear BK340
               clear HB
               have HO_330001 := n0_
               have HO_330002 := n1_
               have HO_341001 := n2_
               have HO_341002 := n3_
               have HO381 := n4_
               have HO384 := n5_
               have BK320 := n6_
               have BK329 := n7_
               have BK340 := n8_
               have HB := n9_
               have BK386 := n10_
               have GW386 := n11_
               have GE386 := n12_
               have NB320_386 := n13_
               have NB386_320 := n14_
               have NB329_386 := n15_
               have NB386_329 := n16_
               have NB340_386 := n17_
               have NB386_340 := n18_
               clear n0_ n1_ n2_ n3_ n4_ n5_ n6_ n7_ n8_ n9_ n10_ n11_ n12_ n13_ n14_ n15_ n16_ n17_ n18_
               clear hb hbox hg
               refine hK.out _ _ ⟨(blk_cell BK329.out 0).trans rfl, (blk_cell BK329.out 1).trans rfl, (blk_cell BK329.out 2).trans rfl, (blk_cell BK320.out 0).trans rfl, (blk_cell BK320.out 1).trans rfl, (blk_cell BK320.out 2).trans rfl, (blk_cell BK320.out 3).trans rfl, (blk_cell BK320.out 4).trans rfl, (blk_cell BK320.out 5).trans rfl, (blk_cell BK320.out 6).trans rfl⟩ (fun hHeld => ?_)
               clear hK K
               refine nm_ 21 ?_
               exact norm_ (by simp only [putAll, Act.put, List.setIfInBounds_toArray, List.set_cons_zero, List.set_cons_succ]) (hCont (v380, v383, gb386) _ ⟨hHeld, (by (with_reducible repeat (first | apply Kd.R_alloc | apply Kd.R_drewN | apply Kd.R_drew)); exact Kd.R_mono HO381.out (fun _ hk => ⟨hk.1.2, hk.2⟩)), (by (with_reducible repeat (first | apply Kd.R_alloc | apply Kd.R_drewN | apply Kd.R_drew)); exact Kd.R_mono HO384.out (fun _ hk => ⟨hk.1.2, hk.2⟩)), (by (with_reducible repeat (first | apply Kd.R_alloc | apply Kd.R_drewN | apply Kd.R_drew)); exact Kd.R_mono HO_330001.out (fun _ hk => ⟨hk.2, hk.1⟩)), (by (with_reducible repeat (first | apply Kd.R_alloc | apply Kd.R_drewN | apply Kd.R_drew)); exact Kd.R_mono HO_330002.out (fun _ hk => ⟨hk.2, hk.1⟩)), (by (with_reducible repeat (first | apply Kd.R_alloc | apply Kd.R_drewN | apply Kd.R_drew)); exact Kd.R_mono HO_341001.out (fun _ hk => ⟨hk.2, hk.1⟩)), (by (with_reducible repeat (first | apply Kd.R_alloc | apply Kd.R_drewN | apply Kd.R_drew)); exact Kd.R_mono HO_341002.out (fun _ hk => ⟨hk.2, hk.1⟩)), (B_ BK320), (B_ BK329), (B_ BK340), (B_ BK386), GW386.out, GE386.out, NB320_386.out, NB386_320.out, NB329_386.out, NB386_329.out, NB340_386.out, NB386_340.out, L_⟩)
             · skip
               refine box_step ?hg (N := 21) ?hd (cs := #[.int .i64 0, .slice none 0 0, .slice none 0 0]) (t := 27) ?hr ?_; (case hd => rfl); (case hg => rfl); (case hr => first | (go_simp; done) | (go_simp; rfl))
               intro gb386 hg w504 hbox hb
               have n0_ := Rb_ HO_330001 hb
               have n1_ := Rb_ HO_330002 hb
               have n2_ := Rb_ HO_341001 hb
               have n3_ := Rb_ HO_341002 hb
               have n4_ := Bb_ BK320 hb
               have n5_ := Bb_ BK329 hb
               have n6_ := Bb_ BK340 hb
               have n7_ := Ls_ HB hb
               have n8_ := Aside0.mk (hbox)
               have n9_ := G_ hg HB
               have n10_ := G_ hg HB
               have n11_ := Nl_ hg BK320
               have n12_ := Ng_ hg BK320
               have n13_ := Nl_ hg BK329
               have n14_ := Ng_ hg BK329
               have n15_ := Nl_ hg BK340
               have n16_ := Ng_ hg BK340
               clear HO_330001
               clear HO_330002
               clear HO_341001
               clear HO_341002
               clear BK320
               clear BK329
               clear BK340
               clear HB
               have HO_330001 := n0_
               have HO_330002 := n1_
               have HO_341001 := n2_
               have HO_341002 := n3_
               have BK320 := n4_
               have BK329 := n5_
               have BK340 := n6_
               have HB := n7_
               have BK386 := n8_
               have GW386 := n9_
               have GE386 := n10_
               have NB320_386 := n11_
               have NB386_320 := n12_
               have NB329_386 := n13_
               have NB386_329 := n14_
               have NB340_386 := n15_
               have NB386_340 := n16_
               clear n0_ n1_ n2_ n3_ n4_ n5_ n6_ n7_ n8_ n9_ n10_ n11_ n12_ n13_ n14_ n15_ n16_
               clear hb hbox hg
               refine hK.out _ _ ⟨(blk_cell BK329.out 0).trans rfl, (blk_cell BK329.out 1).trans rfl, (blk_cell BK329.out 2).trans rfl, (blk_cell BK320.out 0).trans rfl, (blk_cell BK320.out 1).trans rfl, (blk_cell BK320.out 2).trans rfl, (blk_cell BK320.out 3).trans rfl, (blk_cell BK320.out 4).trans rfl, (blk_cell BK320.out 5).trans rfl, (blk_cell BK320.out 6).trans rfl⟩ (fun hHeld => ?_)
               clear hK K
               refine nm_ 21 ?_
               refine on_ 6 132 HT_ rfl rfl (fun K hK => ?_)
               refine goes_ Try.func24 (by kernel_rfl) rfl #[.agg #[.int .i64 t322, .slice Ao21 t323.length co21, .slice Ao22 t326.length co22], .int .i64 a1_1, .int .i64 t377] (by rfl) rfl rfl M_ ?_
               with_reducible refine (vtimer_Sleep.calls t322 _ _ t323 _ _ t326 a1_1 t377 t378 t379 t382 t385 _ ?side1 ?side2 ?side3 ?side4 A260.out).mono ?_
               (case side1 => exact Rs_ HO_330001)
               (case side2 => exact (Kd.R_reads' HO_330001.out).2.1)
               (case side3 => exact Rs_ HO_330002)
               (case side4 => exact (Kd.R_reads' HO_330002.out).2.1)
               rintro e w505 ⟨v380, v383, rfl, ho0, ho1, hb⟩
               refine ⟨_, rfl, ?_⟩
               have n0_ := Aside0.mk (Kd.R_elder' (R_ HO_330001) (Kd.R_base ho0) hb)
               have n1_ := Aside0.mk (Kd.R_elder' (R_ HO_330002) (Kd.R_base ho1) hb)
               have n2_ := Aside0.mk (Kd.R_elder' (R_ HO_341001) (Kd.R_base ho0) hb)
               have n3_ := Aside0.mk (Kd.R_elder' (R_ HO_341002) (Kd.R_base ho1) hb)
               have n4_ := Aside0.mk (Kd.R_lower (Kd.R_new' (Kd.R_new' ho0 (Kd.R_lt (R_ HO_330001))) (Kd.R_lt (R_ HO_341001))) (below_size L_))
               have n5_ := Aside0.mk (Kd.R_lower (Kd.R_new' (Kd.R_new' ho1 (Kd.R_lt (R_ HO_330002))) (Kd.R_lt (R_ HO_341002))) (below_size L_))
               have n6_ := Bb_ BK320 hb
               have n7_ := Bb_ BK329 hb
               have n8_ := Bb_ BK340 hb
               have n9_ := Bb_ BK386 hb
               have n10_ := Ls_ HB hb
               clear HO_330001
               clear HO_330002
               clear HO_341001
               clear HO_341002
               clear BK320
               clear BK329
               clear BK340
               clear BK386
               clear HB
               have HO_330001 := n0_
               have HO_330002 := n1_
               have HO_341001 := n2_
               have HO_341002 := n3_
               have HO381 := n4_
               have HO384 := n5_
               have BK320 := n6_
               have BK329 := n7_
               have BK340 := n8_
               have BK386 := n9_
               have HB := n10_
               clear n0_ n1_ n2_ n3_ n4_ n5_ n6_ n7_ n8_ n9_ n10_
               (try clear hb)
               (try clear hb2)
               (try clear hk)
               (try clear hi)
               (try clear ho0)
               (try clear ho1)
               refine hK.out _ _ ⟨(blk_cell BK329.out 0).trans rfl, (blk_cell BK329.out 1).trans rfl, (blk_cell BK329.out 2).trans rfl, (blk_cell BK320.out 0).trans rfl, (blk_cell BK320.out 1).trans rfl, (blk_cell BK320.out 2).trans rfl, (blk_cell BK320.out 3).trans rfl, (blk_cell BK320.out 4).trans rfl, (blk_cell BK320.out 5).trans rfl, (blk_cell BK320.out 6).trans rfl⟩ (fun hHeld => ?_)
               clear hK K
               refine nm_ 132 ?_
               refine pu_ 7 125 HT_ ?_
               refine pu_ 8 133 HT_ ?_
               refine pu_ 9 134 HT_ ?_
               exact norm_ (by simp only [putAll, Act.put, List.setIfInBounds_toArray, List.set_cons_zero, List.set_cons_succ]) (hCont (v380, v383, gb386) _ ⟨hHeld, (by (with_reducible repeat (first | apply Kd.R_alloc | apply Kd.R_drewN | apply Kd.R_drew)); exact Kd.R_mono HO381.out (fun _ hk => ⟨hk.1.2, hk.2⟩)), (by (with_reducible repeat (first | apply Kd.R_alloc | apply Kd.R_drewN | apply Kd.R_drew)); exact Kd.R_mono HO384.out (fun _ hk => ⟨hk.1.2, hk.2⟩)), (by (with_reducible repeat (first | apply Kd.R_alloc | apply Kd.R_drewN | apply Kd.R_drew)); exact Kd.R_mono HO_330001.out (fun _ hk => ⟨hk.2, hk.1⟩)), (by (with_reducible repeat (first | apply Kd.R_alloc | apply Kd.R_drewN | apply Kd.R_drew)); exact Kd.R_mono HO_330002.out (fun _ hk => ⟨hk.2, hk.1⟩)), (by (with_reducible repeat (first | apply Kd.R_alloc | apply Kd.R_drewN | apply Kd.R_drew)); exact Kd.R_mono HO_341001.out (fun _ hk => ⟨hk.2, hk.1⟩)), (by (with_reducible repeat (first | apply Kd.R_alloc | apply Kd.R_drewN | apply Kd.R_drew)); exact Kd.R_mono HO_341002.out (fun _ hk => ⟨hk.2, hk.1⟩)), (B_ BK320), (B_ BK329), (B_ BK340), (B_ BK386), GW386.out, GE386.out, NB320_386.out, NB386_320.out, NB329_386.out, NB386_329.out, NB340_386.out, NB386_340.out, L_⟩)
           · skip
             refine box_step ?hg (N := 21) ?hd (cs := #[.int .i64 0, .slice none 0 0, .slice none 0 0]) (t := 27) ?hr ?_; (case hd => rfl); (case hg => rfl); (case hr => first | (go_simp; done) | (go_simp; rfl))
             intro gb386 hg w503 hbox hb
             have n0_ := Rb_ HO_330001 hb
             have n1_ := Rb_ HO_330002 hb
             have n2_ := Rb_ HO_341001 hb
             have n3_ := Rb_ HO_341002 hb
             have n4_ := Bb_ BK320 hb
             have n5_ := Bb_ BK329 hb
             have n6_ := Bb_ BK340 hb
             have n7_ := Ls_ HB hb
             have n8_ := Aside0.mk (hbox)
             have n9_ := G_ hg HB
             have n10_ := G_ hg HB
             have n11_ := Nl_ hg BK320
             have n12_ := Ng_ hg BK320
             have n13_ := Nl_ hg BK329
             have n14_ := Ng_ hg BK329
             have n15_ := Nl_ hg BK340
             have n16_ := Ng_ hg BK340
             clear HO_330001
             clear HO_330002
             clear HO_341001
             clear HO_341002
             clear BK320
             clear BK329
             clear BK340
             clear HB
             have HO_330001 := n0_
             have HO_330002 := n1_
             have HO_341001 := n2_
             have HO_341002 := n3_
             have BK320 := n4_
             have BK329 := n5_
             have BK340 := n6_
             have HB := n7_
             have BK386 := n8_
             have GW386 := n9_
             have GE386 := n10_
             have NB320_386 := n11_
             have NB386_320 := n12_
             have NB329_386 := n13_
             have NB386_329 := n14_
             have NB340_386 := n15_
             have NB386_340 := n16_
             clear n0_ n1_ n2_ n3_ n4_ n5_ n6_ n7_ n8_ n9_ n10_ n11_ n12_ n13_ n14_ n15_ n16_
             clear hb hbox hg
             refine hK.out _ _ ⟨(blk_cell BK329.out 0).trans rfl, (blk_cell BK329.out 1).trans rfl, (blk_cell BK329.out 2).trans rfl, (blk_cell BK320.out 0).trans rfl, (blk_cell BK320.out 1).trans rfl, (blk_cell BK320.out 2).trans rfl, (blk_cell BK320.out 3).trans rfl, (blk_cell BK320.out 4).trans rfl, (blk_cell BK320.out 5).trans rfl, (blk_cell BK320.out 6).trans rfl⟩ (fun hHeld => ?_)
             clear hK K
             refine nm_ 21 ?_
             refine on_ 5 131 HT_ rfl rfl (fun K hK => ?_)
             refine goes_ Try.func22 (by kernel_rfl) rfl #[.agg #[.int .i64 a1_0, .int .i64 a1_1, .int .i64 a1_2, .int .i64 a1_3, .int .i64 a1_4, .int .i64 a1_5, .bool a1_6], .agg #[.int .i64 t322, .slice Ao21 t323.length co21, .slice Ao22 t326.length co22]] (by rfl) rfl rfl M_ ?_
             with_reducible refine (mainsheetlaw18_Op_time.calls a1_0 a1_1 a1_2 a1_3 a1_4 a1_5 a1_6 t322 _ _ t323 _ _ t326 t377 _ ?side1 ?side2 ?side3 ?side4 A259.out).mono ?_
             (case side1 => exact Rs_ HO_330001)
             (case side2 => exact (Kd.R_reads' HO_330001.out).2.1)
             (case side3 => exact Rs_ HO_330002)
             (case side4 => exact (Kd.R_reads' HO_330002.out).2.1)
             rintro e w504 ⟨rfl, hb⟩
             refine ⟨_, rfl, ?_⟩
             have n0_ := Rb_ HO_330001 hb
             have n1_ := Rb_ HO_330002 hb
             have n2_ := Rb_ HO_341001 hb
             have n3_ := Rb_ HO_341002 hb
             have n4_ := Bb_ BK320 hb
             have n5_ := Bb_ BK329 hb
             have n6_ := Bb_ BK340 hb
             have n7_ := Bb_ BK386 hb
             have n8_ := Ls_ HB hb
             clear HO_330001
             clear HO_330002
             clear HO_341001
             clear HO_341002
             clear BK320
             clear BK329
             clear BK340
             clear BK386
             clear HB
             have HO_330001 := n0_
             have HO_330002 := n1_
             have HO_341001 := n2_
             have HO_341002 := n3_
             have BK320 := n4_
             have BK329 := n5_
             have BK340 := n6_
             have BK386 := n7_
             have HB := n8_
             clear n0_ n1_ n2_ n3_ n4_ n5_ n6_ n7_ n8_
             (try clear hb)
             (try clear hb2)
             (try clear hk)
             (try clear hi)
             refine hK.out _ _ ⟨(blk_cell BK329.out 0).trans rfl, (blk_cell BK329.out 1).trans rfl, (blk_cell BK329.out 2).trans rfl, (blk_cell BK320.out 0).trans rfl, (blk_cell BK320.out 1).trans rfl, (blk_cell BK320.out 2).trans rfl, (blk_cell BK320.out 3).trans rfl, (blk_cell BK320.out 4).trans rfl, (blk_cell BK320.out 5).trans rfl, (blk_cell BK320.out 6).trans rfl⟩ (fun hHeld => ?_)
             clear hK K
             refine nm_ 131 ?_
             refine on_ 6 132 HT_ rfl rfl (fun K hK => ?_)
             refine goes_ Try.func24 (by kernel_rfl) rfl #[.agg #[.int .i64 t322, .slice Ao21 t323.length co21, .slice Ao22 t326.length co22], .int .i64 a1_1, .int .i64 t377] (by rfl) rfl rfl M_ ?_
             with_reducible refine (vtimer_Sleep.calls t322 _ _ t323 _ _ t326 a1_1 t377 t378 t379 t382 t385 _ ?side1 ?side2 ?side3 ?side4 A260.out).mono ?_
             (case side1 => exact Rs_ HO_330001)
             (case side2 => exact (Kd.R_reads' HO_330001.out).2.1)
             (case side3 => exact Rs_ HO_330002)
             (case side4 => exact (Kd.R_reads' HO_330002.out).2.1)
             rintro e w505 ⟨v380, v383, rfl, ho0, ho1, hb⟩
             refine ⟨_, rfl, ?_⟩
             have n0_ := Aside0.mk (Kd.R_elder' (R_ HO_330001) (Kd.R_base ho0) hb)
             have n1_ := Aside0.mk (Kd.R_elder' (R_ HO_330002) (Kd.R_base ho1) hb)
             have n2_ := Aside0.mk (Kd.R_elder' (R_ HO_341001) (Kd.R_base ho0) hb)
             have n3_ := Aside0.mk (Kd.R_elder' (R_ HO_341002) (Kd.R_base ho1) hb)
             have n4_ := Aside0.mk (Kd.R_lower (Kd.R_new' (Kd.R_new' ho0 (Kd.R_lt (R_ HO_330001))) (Kd.R_lt (R_ HO_341001))) (below_size L_))
             have n5_ := Aside0.mk (Kd.R_lower (Kd.R_new' (Kd.R_new' ho1 (Kd.R_lt (R_ HO_330002))) (Kd.R_lt (R_ HO_341002))) (below_size L_))
             have n6_ := Bb_ BK320 hb
             have n7_ := Bb_ BK329 hb
             have n8_ := Bb_ BK340 hb
             have n9_ := Bb_ BK386 hb
             have n10_ := Ls_ HB hb
             clear HO_330001
             clear HO_330002
             clear HO_341001
             clear HO_341002
             clear BK320
             clear BK329
             clear BK340
             clear BK386
             clear HB
             have HO_330001 := n0_
             have HO_330002 := n1_
             have HO_341001 := n2_
             have HO_341002 := n3_
             have HO381 := n4_
             have HO384 := n5_
             have BK320 := n6_
             have BK329 := n7_
             have BK340 := n8_
             have BK386 := n9_
             have HB := n10_
             clear n0_ n1_ n2_ n3_ n4_ n5_ n6_ n7_ n8_ n9_ n10_
             (try clear hb)
             (try clear hb2)
             (try clear hk)
             (try clear hi)
             (try clear ho0)
             (try clear ho1)
             refine hK.out _ _ ⟨(blk_cell BK329.out 0).trans rfl, (blk_cell BK329.out 1).trans rfl, (blk_cell BK329.out 2).trans rfl, (blk_cell BK320.out 0).trans rfl, (blk_cell BK320.out 1).trans rfl, (blk_cell BK320.out 2).trans rfl, (blk_cell BK320.out 3).trans rfl, (blk_cell BK320.out 4).trans rfl, (blk_cell BK320.out 5).trans rfl, (blk_cell BK320.out 6).trans rfl⟩ (fun hHeld => ?_)
             clear hK K
             refine nm_ 132 ?_
             refine pu_ 7 125 HT_ ?_
             refine pu_ 8 133 HT_ ?_
             refine pu_ 9 134 HT_ ?_
             exact norm_ (by simp only [putAll, Act.put, List.setIfInBounds_toArray, List.set_cons_zero, List.set_cons_succ]) (hCont (v380, v383, gb386) _ ⟨hHeld, (by (with_reducible repeat (first | apply Kd.R_alloc | apply Kd.R_drewN | apply Kd.R_drew)); exact Kd.R_mono HO381.out (fun _ hk => ⟨hk.1.2, hk.2⟩)), (by (with_reducible repeat (first | apply Kd.R_alloc | apply Kd.R_drewN | apply Kd.R_drew)); exact Kd.R_mono HO384.out (fun _ hk => ⟨hk.1.2, hk.2⟩)), (by (with_reducible repeat (first | apply Kd.R_alloc | apply Kd.R_drewN | apply Kd.R_drew)); exact Kd.R_mono HO_330001.out (fun _ hk => ⟨hk.2, hk.1⟩)), (by (with_reducible repeat (first | apply Kd.R_alloc | apply Kd.R_drewN | apply Kd.R_drew)); exact Kd.R_mono HO_330002.out (fun _ hk => ⟨hk.2, hk.1⟩)), (by (with_reducible repeat (first | apply Kd.R_alloc | apply Kd.R_drewN | apply Kd.R_drew)); exact Kd.R_mono HO_341001.out (fun _ hk => ⟨hk.2, hk.1⟩)), (by (with_reducible repeat (first | apply Kd.R_alloc | apply Kd.R_drewN | apply Kd.R_drew)); exact Kd.R_mono HO_341002.out (fun _ hk => ⟨hk.2, hk.1⟩)), (B_ BK320), (B_ BK329), (B_ BK340), (B_ BK386), GW386.out, GE386.out, NB320_386.out, NB386_320.out, NB329_386.out, NB386_329.out, NB340_386.out, NB386_340.out, L_⟩)
         rintro ⟨v380, v383, gb386⟩ w506 ⟨hS_, h0_, h1_, h2_, h3_, h4_, h5_, h6_, h7_, h8_, h9_, h10_, h11_, h12_, h13_, h14_, h15_, h16_, h17_, h18_⟩
         have n0_ : Aside0 (Kd.R k88 88 w506 w.heap.size (fun k_ => some k_ ≠ (.slice Ao21 t323.length co21 : Value).ownBlock ∧ some k_ ≠ (.slice Ao30 t333.length co30 : Value).ownBlock) v380 t379) := ⟨h0_⟩
         have n1_ : Aside0 (Kd.R k47 47 w506 w.heap.size (fun k_ => some k_ ≠ (.slice Ao22 t326.length co22 : Value).ownBlock ∧ some k_ ≠ (.slice Ao32 t336.length co32 : Value).ownBlock) v383 t382) := ⟨h1_⟩
         have n2_ : Aside0 (Kd.R k88 88 w506 w.heap.size (fun k_ => some k_ ≠ (v380 : Value).ownBlock ∧ some k_ ≠ (.slice Ao30 t333.length co30 : Value).ownBlock) (.slice Ao21 t323.length co21) t323) := ⟨h2_⟩
         have n3_ : Aside0 (Kd.R k47 47 w506 w.heap.size (fun k_ => some k_ ≠ (v383 : Value).ownBlock ∧ some k_ ≠ (.slice Ao32 t336.length co32 : Value).ownBlock) (.slice Ao22 t326.length co22) t326) := ⟨h3_⟩
         have n4_ : Aside0 (Kd.R k88 88 w506 w.heap.size (fun k_ => some k_ ≠ (v380 : Value).ownBlock ∧ some k_ ≠ (.slice Ao21 t323.length co21 : Value).ownBlock) (.slice Ao30 t333.length co30) t333) := ⟨h4_⟩
         have n5_ : Aside0 (Kd.R k47 47 w506 w.heap.size (fun k_ => some k_ ≠ (v383 : Value).ownBlock ∧ some k_ ≠ (.slice Ao22 t326.length co22 : Value).ownBlock) (.slice Ao32 t336.length co32) t336) := ⟨h5_⟩
         have n6_ : Aside0 (w506.heap[gb320]? = some (.cells #[.int .i64 a1_0, .int .i64 a1_1, .int .i64 a1_2, .int .i64 a1_3, .int .i64 a1_4, .int .i64 a1_5, .bool a1_6] 58 (0, 0))) := ⟨h6_⟩
         have n7_ : Aside0 (w506.heap[gb329]? = some (.cells #[.int .i64 t322, .slice Ao21 t323.length co21, .slice Ao22 t326.length co22] 27 (0, 0))) := ⟨h7_⟩
         have n8_ : Aside0 (w506.heap[gb340]? = some (.cells #[.int .i64 t332, .slice Ao30 t333.length co30, .slice Ao32 t336.length co32] 27 (0, 0))) := ⟨h8_⟩
         have n9_ : Aside0 (w506.heap[gb386]? = some (.cells #[.int .i64 0, .slice none 0 0, .slice none 0 0] 27 (0, 0))) := ⟨h9_⟩
         have n10_ : Aside0 (w.heap.size ≤ gb386) := ⟨h10_⟩
         have n11_ : Aside0 (w.heap.size ≤ gb386) := ⟨h11_⟩
         have n12_ : Aside0 (gb320 ≠ gb386) := ⟨h12_⟩
         have n13_ : Aside0 (gb386 ≠ gb320) := ⟨h13_⟩
         have n14_ : Aside0 (gb329 ≠ gb386) := ⟨h14_⟩
         have n15_ : Aside0 (gb386 ≠ gb329) := ⟨h15_⟩
         have n16_ : Aside0 (gb340 ≠ gb386) := ⟨h16_⟩
         have n17_ : Aside0 (gb386 ≠ gb340) := ⟨h17_⟩
         have n18_ : Aside0 (Below w.heap.size w w506) := ⟨h18_⟩
         clear HO_330001
         clear HO_330002
         clear HO_341001
         clear HO_341002
         clear BK320
         clear BK329
         clear BK340
         clear HB
         clear h0_ h1_ h2_ h3_ h4_ h5_ h6_ h7_ h8_ h9_ h10_ h11_ h12_ h13_ h14_ h15_ h16_ h17_ h18_
         have HO381 := n0_
         have HO384 := n1_
         have HO_330001 := n2_
         have HO_330002 := n3_
         have HO_341001 := n4_
         have HO_341002 := n5_
         have BK320 := n6_
         have BK329 := n7_
         have BK340 := n8_
         have BK386 := n9_
         have GW386 := n10_
         have GE386 := n11_
         have NB320_386 := n12_
         have NB386_320 := n13_
         have NB329_386 := n14_
         have NB386_329 := n15_
         have NB340_386 := n16_
         have NB386_340 := n17_
         have HB := n18_
         clear n0_ n1_ n2_ n3_ n4_ n5_ n6_ n7_ n8_ n9_ n10_ n11_ n12_ n13_ n14_ n15_ n16_ n17_ n18_
         have hHeld : w506.cell? ⟨gb329, 0, none⟩ = some (.int .i64 t322) ∧ w506.cell? ⟨gb329, 1, none⟩ = some (.slice Ao21 t323.length co21) ∧ w506.cell? ⟨gb329, 2, none⟩ = some (.slice Ao22 t326.length co22) ∧ w506.cell? ⟨gb320, 0, none⟩ = some (.int .i64 a1_0) ∧ w506.cell? ⟨gb320, 1, none⟩ = some (.int .i64 a1_1) ∧ w506.cell? ⟨gb320, 2, none⟩ = some (.int .i64 a1_2) ∧ w506.cell? ⟨gb320, 3, none⟩ = some (.int .i64 a1_3) ∧ w506.cell? ⟨gb320, 4, none⟩ = some (.int .i64 a1_4) ∧ w506.cell? ⟨gb320, 5, none⟩ = some (.int .i64 a1_5) ∧ w506.cell? ⟨gb320, 6, none⟩ = some (.bool a1_6) := hS_
         obtain ⟨Ao508, co508, eo508⟩ := Kd.R_slice HO381.out
         (first | subst eo508 | (injection eo508 with f1_ f2_ f3_; have f4_ := f1_.symm; have f5_ := f3_.symm; clear f1_ f2_ f3_; subst f4_; subst f5_))
         obtain ⟨Ao510, co510, eo510⟩ := Kd.R_slice HO384.out
         (first | subst eo510 | (injection eo510 with f1_ f2_ f3_; have f4_ := f1_.symm; have f5_ := f3_.symm; clear f1_ f2_ f3_; subst f4_; subst f5_))
         refine norm_ (a' := ?_) ?_ ?_
         rotate_left
         · simp only [putAll, Act.put, List.setIfInBounds_toArray, List.set_cons_zero, List.set_cons_succ]
           rfl
         refine one_ (i := 11) (N := none) #[true, true, true, true, true, true, true, true, true, true, true, true, false] rfl rfl (one_of HT_.out (by kernel_rfl)) (by decide) (fun K hK => ?_)
         have hs507 : w506.cell? ⟨gb386, 0, none⟩ = some (.int .i64 0) := (blk_cell BK386.out 0).trans rfl
         have hfs507 := blk_frozen BK386.out 0
         have hns507_0 := NB320_386.out
         have hns507_1 := NB329_386.out
         have hns507_2 := NB340_386.out
         have hms507_0 := NB386_320.out
         have hms507_1 := NB386_329.out
         have hms507_2 := NB386_340.out
         have hs509 : w506.cell? ⟨gb386, 1, none⟩ = some (.slice none 0 0) := (blk_cell BK386.out 1).trans rfl
         have hfs509 := blk_frozen BK386.out 1
         have hns509_0 := NB320_386.out
         have hns509_1 := NB329_386.out
         have hns509_2 := NB340_386.out
         have hms509_0 := NB386_320.out
         have hms509_1 := NB386_329.out
         have hms509_2 := NB386_340.out
         have hs511 : w506.cell? ⟨gb386, 2, none⟩ = some (.slice none 0 0) := (blk_cell BK386.out 2).trans rfl
         have hfs511 := blk_frozen BK386.out 2
         have hns511_0 := NB320_386.out
         have hns511_1 := NB329_386.out
         have hns511_2 := NB340_386.out
         have hms511_0 := NB386_320.out
         have hms511_1 := NB386_329.out
         have hms511_2 := NB386_340.out
         refine skip_ (w1 := ?_) (by rfl) rfl ?_ ?_
         rotate_left
         · go_simp
           rfl
         refine hK.out _ _ ⟨((cell_far (p := ⟨gb386, _, none⟩) NB329_386.out _).trans (((cell_far (p := ⟨gb386, _, none⟩) NB329_386.out _).trans (((cell_far (p := ⟨gb386, _, none⟩) NB329_386.out _).trans (hHeld.1)))))), ((cell_far (p := ⟨gb386, _, none⟩) NB329_386.out _).trans (((cell_far (p := ⟨gb386, _, none⟩) NB329_386.out _).trans (((cell_far (p := ⟨gb386, _, none⟩) NB329_386.out _).trans (hHeld.2.1)))))), ((cell_far (p := ⟨gb386, _, none⟩) NB329_386.out _).trans (((cell_far (p := ⟨gb386, _, none⟩) NB329_386.out _).trans (((cell_far (p := ⟨gb386, _, none⟩) NB329_386.out _).trans (hHeld.2.2.1)))))), ((cell_far (p := ⟨gb386, _, none⟩) NB320_386.out _).trans (((cell_far (p := ⟨gb386, _, none⟩) NB320_386.out _).trans (((cell_far (p := ⟨gb386, _, none⟩) NB320_386.out _).trans (hHeld.2.2.2.1)))))), ((cell_far (p := ⟨gb386, _, none⟩) NB320_386.out _).trans (((cell_far (p := ⟨gb386, _, none⟩) NB320_386.out _).trans (((cell_far (p := ⟨gb386, _, none⟩) NB320_386.out _).trans (hHeld.2.2.2.2.1)))))), ((cell_far (p := ⟨gb386, _, none⟩) NB320_386.out _).trans (((cell_far (p := ⟨gb386, _, none⟩) NB320_386.out _).trans (((cell_far (p := ⟨gb386, _, none⟩) NB320_386.out _).trans (hHeld.2.2.2.2.2.1)))))), ((cell_far (p := ⟨gb386, _, none⟩) NB320_386.out _).trans (((cell_far (p := ⟨gb386, _, none⟩) NB320_386.out _).trans (((cell_far (p := ⟨gb386, _, none⟩) NB320_386.out _).trans (hHeld.2.2.2.2.2.2.1)))))), ((cell_far (p := ⟨gb386, _, none⟩) NB320_386.out _).trans (((cell_far (p := ⟨gb386, _, none⟩) NB320_386.out _).trans (((cell_far (p := ⟨gb386, _, none⟩) NB320_386.out _).trans (hHeld.2.2.2.2.2.2.2.1)))))), ((cell_far (p := ⟨gb386, _, none⟩) NB320_386.out _).trans (((cell_far (p := ⟨gb386, _, none⟩) NB320_386.out _).trans (((cell_far (p := ⟨gb386, _, none⟩) NB320_386.out _).trans (hHeld.2.2.2.2.2.2.2.2.1)))))), ((cell_far (p := ⟨gb386, _, none⟩) NB320_386.out _).trans (((cell_far (p := ⟨gb386, _, none⟩) NB320_386.out _).trans (((cell_far (p := ⟨gb386, _, none⟩) NB320_386.out _).trans (hHeld.2.2.2.2.2.2.2.2.2))))))⟩ (fun hHeld => ?_)
         clear hK K
         refine pu_ 12 7 HT_ ?_
         refine done_ (done_of HT_.out (by kernel_rfl)) ?_
         have hnb512 := NB386_320.out
         have hnc512 := NB320_386.out
         have hnb513 := NB386_329.out
         have hnc513 := NB329_386.out
         have hnb514 := NB386_340.out
         have hnc514 := NB340_386.out
         have hcz515_0 : w506.cell? ⟨gb386, 0, none⟩ = some (.int .i64 0) := (blk_cell BK386.out 0).trans rfl
         have hcz515_1 : w506.cell? ⟨gb386, 1, none⟩ = some (.slice none 0 0) := (blk_cell BK386.out 1).trans rfl
         have hcz515_2 : w506.cell? ⟨gb386, 2, none⟩ = some (.slice none 0 0) := (blk_cell BK386.out 2).trans rfl
         have hfz515_0 := blk_frozen BK386.out 0
         have hfz515_1 := blk_frozen BK386.out 1
         have hfz515_2 := blk_frozen BK386.out 2
         try go_wp2
         go_ret
         exact ⟨E_, L_⟩
   · rw [if_neg c7] at H
     have c7b0 : (t330 == 0) = false := beq_eq_false_iff_ne.mpr c7
     have c7b1 : (t330 != 0) = true := bne_iff_ne.mpr c7
     obtain rfl := Option.some.inj H
     go_enter Try.func6, Try.ntmps6
     go_wp2_with (first | ((with_reducible refine gate_dst (N := 2) rfl ?_); refine box_ 2 27 #[.int .i64 a0_0, .slice A0_1 l0_1.length c0_1, .slice A0_2 l0_2.length c0_2] ?_; intro gb319 hg w516 hbox hb; have BK319 := Aside0.mk (hbox); have GW319 := G_ hg HB; have GE319 := G_ hg HB; replace HB := Ls_ HB hb; clear hb hbox hg) | ((with_reducible refine gate_dst (N := 3) rfl ?_); refine box_ 3 58 #[.int .i64 a1_0, .int .i64 a1_1, .int .i64 a1_2, .int .i64 a1_3, .int .i64 a1_4, .int .i64 a1_5, .bool a1_6] ?_; intro gb320 hg w517 hbox hb; have BK320 := Aside0.mk (hbox); have GW320 := G_ hg HB; have GE320 := G_ hg HB; have NB319_320 := Nl_ hg BK319; have NB320_319 := Ng_ hg BK319; replace BK319 := Bb_ BK319 hb; replace HB := Ls_ HB hb; clear hb hbox hg) | ((with_reducible refine gate_callee (f := 7) rfl ?_); refine goesL_ (some 30) rfl rfl Try.func7 (by kernel_rfl) rfl #[] rfl M_ ?_; (with_reducible refine (mainsheetlaw18_wakes.calls k  true _ A3.out).mono ?_); rintro e w518 ⟨rfl, hb⟩; refine ⟨_, rfl, ?_⟩; replace BK319 := Bb_ BK319 hb; replace BK320 := Bb_ BK320 hb; replace HB := Ls_ HB hb; (try clear hb); (try clear hb2); (try clear hk); (try clear hi); have hnb519 := NB319_320.out; have hnc519 := NB320_319.out; have hcz520_0 : w518.cell? ⟨gb319, 0, none⟩ = some (.int .i64 a0_0) := (blk_cell BK319.out 0).trans rfl; have hcz520_1 : w518.cell? ⟨gb319, 1, none⟩ = some (.slice A0_1 l0_1.length c0_1) := (blk_cell BK319.out 1).trans rfl; have hcz520_2 : w518.cell? ⟨gb319, 2, none⟩ = some (.slice A0_2 l0_2.length c0_2) := (blk_cell BK319.out 2).trans rfl; have hfz520_0 := blk_frozen BK319.out 0; have hfz520_1 := blk_frozen BK319.out 1; have hfz520_2 := blk_frozen BK319.out 2) | ((with_reducible refine gate_callee (f := 8) rfl ?_); refine goesL_ (some 33) rfl rfl Try.func8 (by kernel_rfl) rfl #[.agg #[.int .i64 a0_0, .slice A0_1 l0_1.length c0_1, .slice A0_2 l0_2.length c0_2]] rfl M_ ?_; (with_reducible refine (mainsheetlaw18_short.calls a0_0 _ _ l0_1 _ _ l0_2 t322 t323 t326 _ ?side1 ?side2 ?side3 ?side4 A5.out).mono ?_); (case side1 => exact C_ HR0_1); (case side2 => exact HC0_1.out); (case side3 => exact C_ HR0_2); (case side4 => exact HC0_2.out); rintro e w521 ⟨v324, v327, rfl, ho0, ho1, hb⟩; refine ⟨_, rfl, ?_⟩; have HO325 := Aside0.mk (Kd.R_lower ho0 (below_size L_)); have HO328 := Aside0.mk (Kd.R_lower ho1 (below_size L_)); replace BK319 := Bb_ BK319 hb; replace BK320 := Bb_ BK320 hb; replace HB := Ls_ HB hb; (try clear hb); (try clear hb2); (try clear hk); (try clear hi); (try clear ho0); (try clear ho1)) | ((with_reducible refine gate_dst (N := 5) rfl ?_); refine box_ 5 27 #[.int .i64 0, .slice none 0 0, .slice none 0 0] ?_; intro gb329 hg w522 hbox hb; have BK329 := Aside0.mk (hbox); have GW329 := G_ hg HB; have GE329 := G_ hg HB; have NB319_329 := Nl_ hg BK319; have NB329_319 := Ng_ hg BK319; have NB320_329 := Nl_ hg BK320; have NB329_320 := Ng_ hg BK320; replace HO325 := Rb_ HO325 hb; replace HO328 := Rb_ HO328 hb; replace BK319 := Bb_ BK319 hb; replace BK320 := Bb_ BK320 hb; replace HB := Ls_ HB hb; clear hb hbox hg; have hnb523 := NB329_319.out; have hnc523 := NB319_329.out; have hnb524 := NB329_320.out; have hnc524 := NB320_329.out; have hcz525_0 : w522.cell? ⟨gb329, 0, none⟩ = some (.int .i64 0) := (blk_cell BK329.out 0).trans rfl; have hcz525_1 : w522.cell? ⟨gb329, 1, none⟩ = some (.slice none 0 0) := (blk_cell BK329.out 1).trans rfl; have hcz525_2 : w522.cell? ⟨gb329, 2, none⟩ = some (.slice none 0 0) := (blk_cell BK329.out 2).trans rfl; have hfz525_0 := blk_frozen BK329.out 0; have hfz525_1 := blk_frozen BK329.out 1; have hfz525_2 := blk_frozen BK329.out 2; obtain ⟨Ao526, co526, eo526⟩ := Kd.R_slice HO325.out; subst eo526; obtain ⟨Ao527, co527, eo527⟩ := Kd.R_slice HO328.out; subst eo527) | ((with_reducible refine gate_callee (f := 9) rfl ?_); refine goesL_ (some 35) rfl rfl Try.func9 (by kernel_rfl) rfl #[.agg #[.int .i64 t322, .slice Ao526 t323.length co526, .slice Ao527 t326.length co527]] rfl M_ ?_; (with_reducible refine (vtimer_Check.calls k t322 _ _ t323 _ _ t326 t330 _ ?side1 ?side2 ?side3 ?side4 A6.out).mono ?_); (case side1 => exact Rr_ HO325 BK329); (case side2 => exact (Kd.R_reads' HO325.out).2.1); (case side3 => exact Rr_ HO328 BK329); (case side4 => exact (Kd.R_reads' HO328.out).2.1); rintro e w528 ⟨rfl, hb⟩; refine ⟨_, rfl, ?_⟩; replace HO325 := Aside0.mk (Kd.R_below (Rf_ HO325 BK329) hb); replace HO328 := Aside0.mk (Kd.R_below (Rf_ HO328 BK329) hb); replace BK319 := Aside0.mk (blk_below (Bz_ BK319) hb); replace BK320 := Aside0.mk (blk_below (Bz_ BK320) hb); replace BK329 := Aside0.mk (blk_below (g := gb329) (o := .cells #[.int .i64 t322, .slice Ao526 t323.length co526, .slice Ao527 t326.length co527] 27 (0, 0)) (by (with_reducible repeat (first | refine blk_drewN ?_ _ | refine blk_drew ?_ | refine blk_alloc ?_ _)); refine blk_put (cs := #[.int .i64 t322, .slice Ao526 t323.length co526, .slice none 0 0]) ?_ 2 _ rfl; (with_reducible repeat (first | refine blk_drewN ?_ _ | refine blk_drew ?_ | refine blk_alloc ?_ _)); refine blk_put (cs := #[.int .i64 t322, .slice none 0 0, .slice none 0 0]) ?_ 1 _ rfl; (with_reducible repeat (first | refine blk_drewN ?_ _ | refine blk_drew ?_ | refine blk_alloc ?_ _)); refine blk_put (cs := #[.int .i64 0, .slice none 0 0, .slice none 0 0]) ?_ 0 _ rfl; (with_reducible repeat (first | refine blk_drewN ?_ _ | refine blk_drew ?_ | refine blk_alloc ?_ _)); exact BK329.out) hb); replace HB := Ls_ HB hb; (try clear hb); (try clear hb2); (try clear hk); (try clear hi)))
     go_ret
     exact ⟨E_, L_⟩
 · replace c4 := Bool.eq_false_iff.mpr c4
   subst c4
   have H1 : (some false) = some r := by rw [if_neg (show ¬ (false = true) by decide)] at H; exact H
   clear H
   have H := H1
   clear H1
   exact absurd ((Option.some.inj H).trans hr_) (by decide) -- leaf 10
end Go.Proofs.Ytlddekjlmkimnaa.C
