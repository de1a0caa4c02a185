import Derived.Test.YtlddekjlmkimnaaJ5
import Derived.Test.YtlddekjlmkimnaaJ6
import Derived.Test.YtlddekjlmkimnaaC22
import Derived.Test.YtlddekjlmkimnaaC23
-- Written by a program of this session (wip/tools/stub.py, over the kit's print) and by hand; not the kit's print.
namespace Go.Proofs.Ytlddekjlmkimnaa.C
open Go.RowKit Go.Proofs.YtlddekjlmkimnaaW.PrintWords Go.Proofs.YtlddekjlmkimnaaW.PrintLast Go.Proofs.YtlddekjlmkimnaaW.PrintMore
attribute [local go_sem] max2_int min2_int max_two min_two max_three min_three max_four min_four   -- for this text's walks alone
set_option linter.unusedVariables false
set_option linter.unusedSimpArgs false

/-! ### mainsheetref18_Right: function 16 -/
mutual
def mainsheetref18_Right.l0 : Nat → List (S47) → Int → Int → Int → List (S88) → List (S47) → Option (Bool)
 | 0, _, _, _, _, _, _ => none
 | k + 1, x7, x8, x9, x321000, x321001, x321002 => if x9 < x8 then (if 0 ≤ x9 then (if x9 < (x7.length : Int) then ((mainsheetref18_Alarm.f ((rd_T47 x7 x9).f0) ((rd_T47 x7 x9).f1) ((rd_T47 x7 x9).f2)).bind fun t323 => (if t323 = true then (if x9 > 0 then (if 0 ≤ (wrap64 (x9 - 1)) then (if (wrap64 (x9 - 1)) < (x321002.length : Int) then (if ((rd_T47 x321002 (wrap64 (x9 - 1))).f0) ≥ ((rd_T47 x7 x9).f0) then (some false) else (mainsheetref18_Right.l0 k x7 x8 (wrap64 (x9 + 1)) x321000 x321001 x321002)) else (none)) else (none)) else (mainsheetref18_Right.l0 k x7 x8 (wrap64 (x9 + 1)) x321000 x321001 x321002)) else (some false))) else (none)) else (none)) else ((mainsheetref15_Right.f k x321000 x321001).bind fun t325 => (if t325 = true then (mainsheetref18_Right.l1 k 1 x321000 x321001 x321002) else (some false)))
def mainsheetref18_Right.l1 : Nat → Int → Int → List (S88) → List (S47) → Option (Bool)
 | 0, _, _, _, _ => none
 | k + 1, x5, x321000, x321001, x321002 => if x5 ≤ 16 then ((mainsheetref15_At.f k x321000 x321001 (wrap64 (x5 - 1))).bind fun t326 => ((mainsheetref18_find.f k x321000 x321001 x321002 x5).bind fun t327 => (if ((decide (t326 > 0)) != (decide (t327 ≥ 0))) = true then (some false) else (mainsheetref18_Right.l1 k (wrap64 (x5 + 1)) x321000 x321001 x321002)))) else (some true)
end
def mainsheetref18_Right.f (k : Nat) (a0_0 : Int) (l0_1 : List (S88)) (l0_2 : List (S47)) : Option (Bool) := mainsheetref18_Right.l0 k l0_2 (l0_2.length : Int) 0 a0_0 l0_1 l0_2
theorem mainsheetref18_Right.mono_l : ∀ k, (∀ y0 y1 y2 y3 y4 y5, LeO (mainsheetref18_Right.l0 k y0 y1 y2 y3 y4 y5) (mainsheetref18_Right.l0 (k + 1) y0 y1 y2 y3 y4 y5)) ∧ (∀ y0 y1 y2 y3, LeO (mainsheetref18_Right.l1 k y0 y1 y2 y3) (mainsheetref18_Right.l1 (k + 1) y0 y1 y2 y3))
 | 0 => ⟨fun _ _ _ _ _ _ r h => by simp [mainsheetref18_Right.l0] at h, fun _ _ _ _ r h => by simp [mainsheetref18_Right.l1] at h⟩
 | k + 1 => by
  obtain ⟨ih0, ih1⟩ := mainsheetref18_Right.mono_l k
  refine ⟨?_, ?_⟩
  · intro y0 y1 y2 y3 y4 y5
    unfold mainsheetref18_Right.l0
    repeat' first
    | (with_reducible exact ih0 _ _ _ _ _ _)
    | (with_reducible exact ih1 _ _ _ _)
    | (with_reducible exact mainsheetref15_At.mono _ _ _ _)
    | (with_reducible exact mainsheetref15_Right.mono _ _ _)
    | (with_reducible exact mainsheetref18_find.mono _ _ _ _ _)
    | (with_reducible exact LeO.refl _)
    | (with_reducible exact LeO.none _)
    | (with_reducible refine LeO.ite ?_ ?_)
    | (with_reducible refine LeO.bind ?_ (fun _ => ?_))
    | exact ih0 _ _ _ _ _ _
    | exact ih1 _ _ _ _
    | exact mainsheetref15_At.mono _ _ _ _
    | exact mainsheetref15_Right.mono _ _ _
    | exact mainsheetref18_find.mono _ _ _ _ _
    | exact LeO.none _
    | refine LeO.ite ?_ ?_
    | refine LeO.bind ?_ (fun _ => ?_)
  · intro y0 y1 y2 y3
    unfold mainsheetref18_Right.l1
    repeat' first
    | (with_reducible exact ih0 _ _ _ _ _ _)
    | (with_reducible exact ih1 _ _ _ _)
    | (with_reducible exact mainsheetref15_At.mono _ _ _ _)
    | (with_reducible exact mainsheetref15_Right.mono _ _ _)
    | (with_reducible exact mainsheetref18_find.mono _ _ _ _ _)
    | (with_reducible exact LeO.refl _)
    | (with_reducible exact LeO.none _)
    | (with_reducible refine LeO.ite ?_ ?_)
    | (with_reducible refine LeO.bind ?_ (fun _ => ?_))
    | exact ih0 _ _ _ _ _ _
    | exact ih1 _ _ _ _
    | exact mainsheetref15_At.mono _ _ _ _
    | exact mainsheetref15_Right.mono _ _ _
    | exact mainsheetref18_find.mono _ _ _ _ _
    | exact LeO.none _
    | refine LeO.ite ?_ ?_
    | refine LeO.bind ?_ (fun _ => ?_)
theorem mainsheetref18_Right.mono : ∀ a0 a1 a2 k, LeO (mainsheetref18_Right.f k a0 a1 a2) (mainsheetref18_Right.f (k + 1) a0 a1 a2) := by
 intro a0 a1 a2 k
 obtain ⟨ih0, ih1⟩ := mainsheetref18_Right.mono_l k
 unfold mainsheetref18_Right.f
 repeat' first
  | (with_reducible exact ih0 _ _ _ _ _ _)
  | (with_reducible exact ih1 _ _ _ _)
  | (with_reducible exact mainsheetref15_At.mono _ _ _ _)
  | (with_reducible exact mainsheetref15_Right.mono _ _ _)
  | (with_reducible exact mainsheetref18_find.mono _ _ _ _ _)
  | (with_reducible exact LeO.refl _)
  | (with_reducible exact LeO.none _)
  | (with_reducible refine LeO.ite ?_ ?_)
  | (with_reducible refine LeO.bind ?_ (fun _ => ?_))
  | exact ih0 _ _ _ _ _ _
  | exact ih1 _ _ _ _
  | exact mainsheetref15_At.mono _ _ _ _
  | exact mainsheetref15_Right.mono _ _ _
  | exact mainsheetref18_find.mono _ _ _ _ _
  | exact LeO.none _
  | refine LeO.ite ?_ ?_
  | refine LeO.bind ?_ (fun _ => ?_)
def mainsheetref18_Right.T4 : Bool × List (List Nat × List Nat) := (true, [([], []), ([0], [0]), ([1], [1]), ([2, 1], [2]), ([3], [3]), ([4, 3], [3, 4]), ([5, 3, 3], [3, 5]), ([6], [6]), ([7, 6], [6, 7]), ([6], [6]), ([9, 6], [6, 9]), ([8, 10, 6], [6, 8, 10]), ([11, 6], [6, 11]), ([12, 6], [6, 12]), ([6], [6]), ([14, 6], [6, 14]), ([13, 15, 6], [6, 13, 15]), ([6, 16, 3], [3, 6, 16]), ([3, 17], [3, 17])])
def mainsheetref18_Right.B4 : List Nat := [0, 1, 3, 7, 15, 31, 63, 127, 255, 127, 639, 2047, 4095, 8191, 127, 16511, 65535, 131071, 262143]
theorem mainsheetref18_Right.tab4 : rtab .any (opsOf Try.f16 4) = mainsheetref18_Right.T4 := by kernel_rfl
theorem mainsheetref18_Right.bits4 : waitsOk mainsheetref18_Right.T4.2 mainsheetref18_Right.B4 = true := by kernel_rfl
def mainsheetref18_Right.T12 : Bool × List (List Nat × List Nat) := (true, [([], []), ([0], [0]), ([], []), ([2], [2]), ([1, 3], [1, 3]), ([4], [4]), ([], []), ([], []), ([6, 7, 4], [6, 7]), ([8], [8]), ([5, 9], [5, 9])])
def mainsheetref18_Right.B12 : List Nat := [0, 1, 0, 4, 15, 31, 0, 0, 223, 479, 1023]
theorem mainsheetref18_Right.tab12 : rtab .any (opsOf Try.f16 12) = mainsheetref18_Right.T12 := by kernel_rfl
theorem mainsheetref18_Right.bits12 : waitsOk mainsheetref18_Right.T12.2 mainsheetref18_Right.B12 = true := by kernel_rfl
set_option maxHeartbeats 8000000 in
set_option maxRecDepth 100000 in
theorem mainsheetref18_Right.calls (k : Nat) (a0_0 : Int) (A0_1 : Option Addr) (c0_1 : Nat) (l0_1 : List (S88)) (A0_2 : Option Addr) (c0_2 : Nat) (l0_2 : List (S47)) (r : Bool) (w : World) (hr0_1 : Kd.C k88 w A0_1 l0_1.length l0_1) (hc0_1 : l0_1.length ≤ c0_1) (hr0_2 : Kd.C k47 w A0_2 l0_2.length l0_2) (hc0_2 : l0_2.length ≤ c0_2) (h : mainsheetref18_Right.f k a0_0 l0_1 l0_2 = some r) :
 Calls Try.prog 16 #[.agg #[.int .i64 a0_0, .slice A0_1 l0_1.length c0_1, .slice A0_2 l0_2.length c0_2]] w fun e w' => e = .returned (.bool r) ∧ Below w.heap.size w w' := by
 have hu27 := Try.underlying27
 have hu47 := Try.underlying47
 have hu24 := Try.underlying24
 have HR0_1 := Aside0.mk hr0_1
 have HC0_1 := Aside0.mk hc0_1
 clear hr0_1 hc0_1
 have HR0_2 := Aside0.mk hr0_2
 have HC0_2 := Aside0.mk hc0_2
 clear hr0_2 hc0_2
 have HB := Aside0.mk (Below.refl w.heap.size w)
 have H : (mainsheetref18_Right.l0 k l0_2 (l0_2.length : Int) 0 a0_0 l0_1 l0_2) = some r := h
 clear h
 have H' := Aside0.mk H
 clear H
 go_enter Try.func16, Try.ntmps16
 go_wp2_with (first | ((with_reducible refine gate_dst (N := 1) rfl ?_); refine box_ 1 27 #[.int .i64 a0_0, .slice A0_1 l0_1.length c0_1, .slice A0_2 l0_2.length c0_2] ?_; intro gb320 hg w2 hbox hb; have BK320 := Aside0.mk (hbox); have GW320 := G_ hg HB; have GE320 := G_ hg HB; replace HB := Ls_ HB hb; clear hb hbox hg; have hcz3_0 : w2.cell? ⟨gb320, 0, none⟩ = some (.int .i64 a0_0) := (blk_cell BK320.out 0).trans rfl; have hcz3_1 : w2.cell? ⟨gb320, 1, none⟩ = some (.slice A0_1 l0_1.length c0_1) := (blk_cell BK320.out 1).trans rfl; have hcz3_2 : w2.cell? ⟨gb320, 2, none⟩ = some (.slice A0_2 l0_2.length c0_2) := (blk_cell BK320.out 2).trans rfl; have hfz3_0 := blk_frozen BK320.out 0; have hfz3_1 := blk_frozen BK320.out 1; have hfz3_2 := blk_frozen BK320.out 2))
 go_loopg [9] k (fun kq v9 w' => ∃ (x9_1 : Int), v9 = .int .i64 x9_1 ∧ Aside0 (mainsheetref18_Right.l0 kq l0_2 (l0_2.length : Int) x9_1 a0_0 l0_1 l0_2 = some r) ∧ Aside0 (kq ≤ k) ∧ Aside0 (w'.heap[gb320]? = some (.cells #[.int .i64 a0_0, (.slice A0_1 l0_1.length c0_1), (.slice A0_2 l0_2.length c0_2)] 27 (0, 0))) ∧ Aside0 (Below w.heap.size w w'))
 case atStart => exact ⟨(0), S_, H', ⟨Nat.le_refl _⟩, ⟨B_ BK320⟩, ⟨L_⟩⟩
 case round =>
  clear H'
  try clear c1; try clear p2; try clear hcz3_0; try clear hcz3_1; try clear hcz3_2; try clear hfz3_0; try clear hfz3_1; try clear hfz3_2
  obtain ⟨x9_1, rfl, HA, HK1, BK320, HB⟩ := hrel
  cases gk with
  | zero => exact absurd HA.out (by simp [mainsheetref18_Right.l0])
  | succ k1 =>
   have H := HA.out
   clear HA
   simp only [mainsheetref18_Right.l0] at H
   by_cases c4 : x9_1 < (l0_2.length : Int)
   · rw [if_pos c4] at H
     have c4b0 : decide (x9_1 < (l0_2.length : Int)) = true := decide_eq_true c4
     clear c4
     by_cases c5 : 0 ≤ x9_1
     · rw [if_pos c5] at H
       have c5b0 : decide (0 ≤ x9_1) = true := decide_eq_true c5
       clear c5
       by_cases c6 : x9_1 < (l0_2.length : Int)
       · rw [if_pos c6] at H
         have c6b0 : decide (x9_1 < (l0_2.length : Int)) = true := decide_eq_true c6
         clear c6
         replace H := Option.bind_eq_some_iff.mp H
         obtain ⟨t323, A70, H⟩ := H
         replace H : (if t323 = true then (if x9_1 > 0 then (if 0 ≤ (wrap64 (x9_1 - 1)) then (if (wrap64 (x9_1 - 1)) < (l0_2.length : Int) then (if ((rd_T47 l0_2 (wrap64 (x9_1 - 1))).f0) ≥ ((rd_T47 l0_2 x9_1).f0) then (some false) else (mainsheetref18_Right.l0 k1 l0_2 (l0_2.length : Int) (wrap64 (x9_1 + 1)) a0_0 l0_1 l0_2)) else (none)) else (none)) else (mainsheetref18_Right.l0 k1 l0_2 (l0_2.length : Int) (wrap64 (x9_1 + 1)) a0_0 l0_1 l0_2)) else (some false)) = some r := H
         have A7 := Aside0.mk A70
         clear A70
         by_cases c8 : t323 = true
         · subst c8
           have H1 : (if x9_1 > 0 then (if 0 ≤ (wrap64 (x9_1 - 1)) then (if (wrap64 (x9_1 - 1)) < (l0_2.length : Int) then (if ((rd_T47 l0_2 (wrap64 (x9_1 - 1))).f0) ≥ ((rd_T47 l0_2 x9_1).f0) then (some false) else (mainsheetref18_Right.l0 k1 l0_2 (l0_2.length : Int) (wrap64 (x9_1 + 1)) a0_0 l0_1 l0_2)) else (none)) else (none)) else (mainsheetref18_Right.l0 k1 l0_2 (l0_2.length : Int) (wrap64 (x9_1 + 1)) a0_0 l0_1 l0_2)) = some r := by rw [if_pos rfl] at H; exact H
           clear H
           have H := H1
           clear H1
           by_cases c9 : x9_1 > 0
           · rw [if_pos c9] at H
             have c9b0 : decide (0 < x9_1) = true := decide_eq_true c9
             clear c9
             obtain ⟨ji10, hji10⟩ : ∃ j_ : Int, (wrap64 (x9_1 - 1)) = j_ := ⟨_, rfl⟩
             replace H : (if 0 ≤ (ji10) then (if (ji10) < (l0_2.length : Int) then (if ((rd_T47 l0_2 (ji10)).f0) ≥ ((rd_T47 l0_2 x9_1).f0) then (some false) else (mainsheetref18_Right.l0 k1 l0_2 (l0_2.length : Int) (wrap64 (x9_1 + 1)) a0_0 l0_1 l0_2)) else (none)) else (none)) = some r := by first | (rw [hji10] at H; exact H) | (simp only [hji10] at H ⊢; exact H)
             (try rw [hji10] at A7)
             have hji10w : (IntKind.i64.wrap (x9_1 - 1)) = ji10 := (i64_w _).trans hji10
             by_cases c11 : 0 ≤ (ji10)
             · rw [if_pos c11] at H
               have c11b0 : decide (0 ≤ (ji10)) = true := decide_eq_true c11
               clear c11
               by_cases c12 : (ji10) < (l0_2.length : Int)
               · rw [if_pos c12] at H
                 have c12b0 : decide ((ji10) < (l0_2.length : Int)) = true := decide_eq_true c12
                 clear c12
                 by_cases c13 : ((rd_T47 l0_2 (ji10)).f0) ≥ ((rd_T47 l0_2 x9_1).f0)
                 · rw [if_pos c13] at H
                   have c13b0 : decide (((rd_T47 l0_2 x9_1).f0) ≤ ((rd_T47 l0_2 (ji10)).f0)) = true := decide_eq_true c13
                   clear c13
                   obtain rfl := Option.some.inj H
                   have p321 : 0 ≤ (x9_1 : Int) := of_decide_eq_true As_
                   have q321 : x9_1 < (l0_2.length : Int) := of_decide_eq_true As_
                   obtain ⟨ad321, e321, hx321_0, hx321_1, hx321_2⟩ := at_T47 HR0_2.out x9_1 p321 q321
                   cases e321
                   replace hx321_0 := Hx_ HB hx321_0
                   replace hx321_1 := Hx_ HB hx321_1
                   replace hx321_2 := Hx_ HB hx321_2
                   replace p321 := eq_true p321
                   replace q321 := eq_true q321
                   try go_wp2_with (first | ((with_reducible refine gate_dst (N := 4) rfl ?_); refine box_ 4 47 #[.int .i64 0, .int .i64 0, .int .i64 0] ?_; intro gb322 hg w14 hbox hb; have BK322 := Aside0.mk (hbox); have GW322 := G_ hg HB; have GE322 := G_ hg HB; have NB320_322 := Nl_ hg BK320; have NB322_320 := Ng_ hg BK320; replace BK320 := Bb_ BK320 hb; replace HB := Ls_ HB hb; clear hb hbox hg; have hnb15 := NB322_320.out; have hnc15 := NB320_322.out; have hcz16_0 : w14.cell? ⟨gb322, 0, none⟩ = some (.int .i64 0) := (blk_cell BK322.out 0).trans rfl; have hcz16_1 : w14.cell? ⟨gb322, 1, none⟩ = some (.int .i64 0) := (blk_cell BK322.out 1).trans rfl; have hcz16_2 : w14.cell? ⟨gb322, 2, none⟩ = some (.int .i64 0) := (blk_cell BK322.out 2).trans rfl; have hfz16_0 := blk_frozen BK322.out 0; have hfz16_1 := blk_frozen BK322.out 1; have hfz16_2 := blk_frozen BK322.out 2))
                   have n0_ : Aside0 ((((w14.setCell ⟨gb322, 0, none⟩ (.int .i64 ((rd_T47 l0_2 x9_1).f0))).setCell ⟨gb322, 1, none⟩ (.int .i64 ((rd_T47 l0_2 x9_1).f1))).setCell ⟨gb322, 2, none⟩ (.int .i64 ((rd_T47 l0_2 x9_1).f2))).heap[gb320]? = some (.cells #[.int .i64 a0_0, .slice A0_1 l0_1.length c0_1, .slice (some ad321) l0_2.length c0_2] 27 (0, 0))) := ⟨Bz_ BK320⟩
                   have n1_ : Aside0 ((((w14.setCell ⟨gb322, 0, none⟩ (.int .i64 ((rd_T47 l0_2 x9_1).f0))).setCell ⟨gb322, 1, none⟩ (.int .i64 ((rd_T47 l0_2 x9_1).f1))).setCell ⟨gb322, 2, none⟩ (.int .i64 ((rd_T47 l0_2 x9_1).f2))).heap[gb322]? = some (.cells #[.int .i64 ((rd_T47 l0_2 x9_1).f0), .int .i64 ((rd_T47 l0_2 x9_1).f1), .int .i64 ((rd_T47 l0_2 x9_1).f2)] 47 (0, 0))) := ⟨by (with_reducible repeat (first | refine blk_drewN ?_ _ | refine blk_drew ?_ | refine blk_alloc ?_ _)); refine blk_put (cs := #[.int .i64 ((rd_T47 l0_2 x9_1).f0), .int .i64 ((rd_T47 l0_2 x9_1).f1), .int .i64 0]) ?_ 2 _ rfl; (with_reducible repeat (first | refine blk_drewN ?_ _ | refine blk_drew ?_ | refine blk_alloc ?_ _)); refine blk_put (cs := #[.int .i64 ((rd_T47 l0_2 x9_1).f0), .int .i64 0, .int .i64 0]) ?_ 1 _ rfl; (with_reducible repeat (first | refine blk_drewN ?_ _ | refine blk_drew ?_ | refine blk_alloc ?_ _)); refine blk_put (cs := #[.int .i64 0, .int .i64 0, .int .i64 0]) ?_ 0 _ rfl; (with_reducible repeat (first | refine blk_drewN ?_ _ | refine blk_drew ?_ | refine blk_alloc ?_ _)); exact BK322.out⟩
                   have n2_ : Aside0 (Below w.heap.size w (((w14.setCell ⟨gb322, 0, none⟩ (.int .i64 ((rd_T47 l0_2 x9_1).f0))).setCell ⟨gb322, 1, none⟩ (.int .i64 ((rd_T47 l0_2 x9_1).f1))).setCell ⟨gb322, 2, none⟩ (.int .i64 ((rd_T47 l0_2 x9_1).f2)))) := ⟨L_⟩
                   (try clear BK320)
                   (try clear BK322)
                   (try clear HB)
                   generalize (((w14.setCell ⟨gb322, 0, none⟩ (.int .i64 ((rd_T47 l0_2 x9_1).f0))).setCell ⟨gb322, 1, none⟩ (.int .i64 ((rd_T47 l0_2 x9_1).f1))).setCell ⟨gb322, 2, none⟩ (.int .i64 ((rd_T47 l0_2 x9_1).f2))) = w17 at n0_ n1_ n2_ ⊢
                   have BK320 := n0_
                   have BK322 := n1_
                   have HB := n2_
                   clear n0_ n1_ n2_
                   have n0_ := Aside0.mk (blk_drew BK320.out)
                   have n1_ := Aside0.mk (blk_drew BK322.out)
                   have n2_ := Aside0.mk (below_drew1 HB.out)
                   clear BK320
                   clear BK322
                   clear HB
                   have BK320 := n0_
                   have BK322 := n1_
                   have HB := n2_
                   clear n0_ n1_ n2_
                   have p324 : 0 ≤ ((ji10) : Int) := of_decide_eq_true As_
                   have q324 : (ji10) < (l0_2.length : Int) := of_decide_eq_true As_
                   obtain ⟨ad324, e324, hx324_0, hx324_1, hx324_2⟩ := at_T47 HR0_2.out (ji10) p324 q324
                   have hw324_2 := hx324_2
                   have hw324_1 := hx324_1
                   have hw324_0 := hx324_0
                   obtain rfl : ad321 = ad324 := (by injection e324)
                   replace hx324_0 := Hx_ HB hx324_0
                   replace hx324_1 := Hx_ HB hx324_1
                   replace hx324_2 := Hx_ HB hx324_2
                   replace p324 := eq_true p324
                   replace q324 := eq_true q324
                   refine st_ 19 (fun w' => w'.cell? ⟨gb322, 0, none⟩ = some (.int .i64 ((rd_T47 l0_2 x9_1).f0)) ∧ w'.cell? ⟨gb322, 1, none⟩ = some (.int .i64 ((rd_T47 l0_2 x9_1).f1)) ∧ w'.cell? ⟨gb322, 2, none⟩ = some (.int .i64 ((rd_T47 l0_2 x9_1).f2)) ∧ w'.cell? ⟨gb320, 0, none⟩ = some (.int .i64 a0_0) ∧ w'.cell? ⟨gb320, 1, none⟩ = some (.slice A0_1 l0_1.length c0_1) ∧ w'.cell? ⟨gb320, 2, none⟩ = some (.slice (some ad321) l0_2.length c0_2) ∧ w'.cell? (ad321.add (((ji10)).toNat * 3)) = some (.int .i64 ((rd_T47 l0_2 (ji10)).f0)) ∧ w'.cell? ⟨(ad321.add (((ji10)).toNat * 3)).block, (ad321.add (((ji10)).toNat * 3)).off + 1, none⟩ = some (.int .i64 ((rd_T47 l0_2 (ji10)).f1)) ∧ w'.cell? ⟨(ad321.add (((ji10)).toNat * 3)).block, (ad321.add (((ji10)).toNat * 3)).off + 2, none⟩ = some (.int .i64 ((rd_T47 l0_2 (ji10)).f2))) [] ⟨(blk_cell BK322.out 0).trans rfl, (blk_cell BK322.out 1).trans rfl, (blk_cell BK322.out 2).trans rfl, (blk_cell BK320.out 0).trans rfl, (blk_cell BK320.out 1).trans rfl, (blk_cell BK320.out 2).trans rfl, ((HB.out.cell (World.block_lt_of_cell? w _ hw324_0)).trans hw324_0), ((HB.out.cell (World.block_lt_of_cell? w _ hw324_1)).trans hw324_1), ((HB.out.cell (World.block_lt_of_cell? w _ hw324_2)).trans hw324_2)⟩ (fun hHeld => ?_); refine with_tabW mainsheetref18_Right.tab4 mainsheetref18_Right.bits4 (fun HT_ HW_ => ?_)
                   generalize w17.drew = w18 at BK320 BK322 HB hx324_0 hx324_1 hx324_2 hHeld ⊢
                   refine ta_ 0 14 HT_ HW_ rfl rfl hHeld (by rintro w' ⟨s0, s1, s2, s3, s4, s5, s6, s7, s8⟩; go_simp; with_reducible rfl) ?_
                   refine on_ 1 15 HT_ rfl rfl (fun K hK => ?_)
                   refine goes_ Try.func42 (by kernel_rfl) rfl #[.agg #[.int .i64 ((rd_T47 l0_2 x9_1).f0), .int .i64 ((rd_T47 l0_2 x9_1).f1), .int .i64 ((rd_T47 l0_2 x9_1).f2)]] (by rfl) rfl rfl M_ ?_
                   with_reducible refine (mainsheetref18_Alarm.calls ((rd_T47 l0_2 x9_1).f0) ((rd_T47 l0_2 x9_1).f1) ((rd_T47 l0_2 x9_1).f2) true _ A7.out).mono ?_
                   rintro e w19 ⟨rfl, hb⟩
                   refine ⟨_, rfl, ?_⟩
                   have n0_ := Bb_ BK320 hb
                   have n1_ := Bb_ BK322 hb
                   have n2_ := Ls_ HB hb
                   clear BK320
                   clear BK322
                   clear HB
                   have BK320 := n0_
                   have BK322 := n1_
                   have HB := n2_
                   clear n0_ n1_ n2_
                   (try clear hb)
                   (try clear hb2)
                   (try clear hk)
                   (try clear hi)
                   refine hK.out _ _ ⟨(blk_cell BK322.out 0).trans rfl, (blk_cell BK322.out 1).trans rfl, (blk_cell BK322.out 2).trans rfl, (blk_cell BK320.out 0).trans rfl, (blk_cell BK320.out 1).trans rfl, (blk_cell BK320.out 2).trans rfl, ((HB.out.cell (World.block_lt_of_cell? w _ hw324_0)).trans hw324_0), ((HB.out.cell (World.block_lt_of_cell? w _ hw324_1)).trans hw324_1), ((HB.out.cell (World.block_lt_of_cell? w _ hw324_2)).trans hw324_2)⟩ (fun hHeld => ?_)
                   clear hK K
                   refine nm_ 15 ?_
                   refine pu_ 2 16 HT_ ?_
                   refine pu_ 3 17 HT_ ?_
                   refine pu_ 4 18 HT_ ?_
                   refine pu_ 5 19 HT_ ?_
                   refine pu_ 6 20 HT_ ?_
                   refine pu_ 7 21 HT_ ?_
                   refine pu_ 9 23 HT_ ?_
                   refine pu_ 10 24 HT_ ?_
                   refine pu_ 14 28 HT_ ?_
                   refine ta_ 8 22 HT_ HW_ rfl rfl hHeld (by rintro w' ⟨s0, s1, s2, s3, s4, s5, s6, s7, s8⟩; go_simp; with_reducible rfl) ?_
                   refine pu_ 11 25 HT_ ?_
                   refine pu_ 12 26 HT_ ?_
                   refine ta_ 13 27 HT_ HW_ rfl rfl hHeld (by rintro w' ⟨s0, s1, s2, s3, s4, s5, s6, s7, s8⟩; go_simp; with_reducible rfl) ?_
                   refine ta_ 15 29 HT_ HW_ rfl rfl hHeld (by rintro w' ⟨s0, s1, s2, s3, s4, s5, s6, s7, s8⟩; go_simp; with_reducible rfl) ?_
                   refine pu_ 16 30 HT_ ?_
                   refine pu_ 17 31 HT_ ?_
                   refine pu_ 18 32 HT_ ?_
                   refine done_ (done_of HT_.out (by kernel_rfl)) ?_
                   try go_wp2
                   go_ret
                   exact ⟨by first | rfl | (simp [errW_none, errW_some] <;> rfl) | (simp only [← hji10]; first | rfl | (simp [errW_none, errW_some] <;> rfl)) | (simp [*, errW_none, errW_some] <;> rfl), L_⟩
                 · rw [if_neg c13] at H
                   have c13b0 : decide (((rd_T47 l0_2 x9_1).f0) ≤ ((rd_T47 l0_2 (ji10)).f0)) = false := decide_eq_false c13
                   clear c13
                   have H' := Aside0.mk H
                   clear H
                   have p321 : 0 ≤ (x9_1 : Int) := of_decide_eq_true As_
                   have q321 : x9_1 < (l0_2.length : Int) := of_decide_eq_true As_
                   obtain ⟨ad321, e321, hx321_0, hx321_1, hx321_2⟩ := at_T47 HR0_2.out x9_1 p321 q321
                   cases e321
                   replace hx321_0 := Hx_ HB hx321_0
                   replace hx321_1 := Hx_ HB hx321_1
                   replace hx321_2 := Hx_ HB hx321_2
                   replace p321 := eq_true p321
                   replace q321 := eq_true q321
                   try go_wp2_with (first | ((with_reducible refine gate_dst (N := 4) rfl ?_); refine box_ 4 47 #[.int .i64 0, .int .i64 0, .int .i64 0] ?_; intro gb322 hg w20 hbox hb; have BK322 := Aside0.mk (hbox); have GW322 := G_ hg HB; have GE322 := G_ hg HB; have NB320_322 := Nl_ hg BK320; have NB322_320 := Ng_ hg BK320; replace BK320 := Bb_ BK320 hb; replace HB := Ls_ HB hb; clear hb hbox hg; have hnb21 := NB322_320.out; have hnc21 := NB320_322.out; have hcz22_0 : w20.cell? ⟨gb322, 0, none⟩ = some (.int .i64 0) := (blk_cell BK322.out 0).trans rfl; have hcz22_1 : w20.cell? ⟨gb322, 1, none⟩ = some (.int .i64 0) := (blk_cell BK322.out 1).trans rfl; have hcz22_2 : w20.cell? ⟨gb322, 2, none⟩ = some (.int .i64 0) := (blk_cell BK322.out 2).trans rfl; have hfz22_0 := blk_frozen BK322.out 0; have hfz22_1 := blk_frozen BK322.out 1; have hfz22_2 := blk_frozen BK322.out 2))
                   have n0_ : Aside0 ((((w20.setCell ⟨gb322, 0, none⟩ (.int .i64 ((rd_T47 l0_2 x9_1).f0))).setCell ⟨gb322, 1, none⟩ (.int .i64 ((rd_T47 l0_2 x9_1).f1))).setCell ⟨gb322, 2, none⟩ (.int .i64 ((rd_T47 l0_2 x9_1).f2))).heap[gb320]? = some (.cells #[.int .i64 a0_0, .slice A0_1 l0_1.length c0_1, .slice (some ad321) l0_2.length c0_2] 27 (0, 0))) := ⟨Bz_ BK320⟩
                   have n1_ : Aside0 ((((w20.setCell ⟨gb322, 0, none⟩ (.int .i64 ((rd_T47 l0_2 x9_1).f0))).setCell ⟨gb322, 1, none⟩ (.int .i64 ((rd_T47 l0_2 x9_1).f1))).setCell ⟨gb322, 2, none⟩ (.int .i64 ((rd_T47 l0_2 x9_1).f2))).heap[gb322]? = some (.cells #[.int .i64 ((rd_T47 l0_2 x9_1).f0), .int .i64 ((rd_T47 l0_2 x9_1).f1), .int .i64 ((rd_T47 l0_2 x9_1).f2)] 47 (0, 0))) := ⟨by (with_reducible repeat (first | refine blk_drewN ?_ _ | refine blk_drew ?_ | refine blk_alloc ?_ _)); refine blk_put (cs := #[.int .i64 ((rd_T47 l0_2 x9_1).f0), .int .i64 ((rd_T47 l0_2 x9_1).f1), .int .i64 0]) ?_ 2 _ rfl; (with_reducible repeat (first | refine blk_drewN ?_ _ | refine blk_drew ?_ | refine blk_alloc ?_ _)); refine blk_put (cs := #[.int .i64 ((rd_T47 l0_2 x9_1).f0), .int .i64 0, .int .i64 0]) ?_ 1 _ rfl; (with_reducible repeat (first | refine blk_drewN ?_ _ | refine blk_drew ?_ | refine blk_alloc ?_ _)); refine blk_put (cs := #[.int .i64 0, .int .i64 0, .int .i64 0]) ?_ 0 _ rfl; (with_reducible repeat (first | refine blk_drewN ?_ _ | refine blk_drew ?_ | refine blk_alloc ?_ _)); exact BK322.out⟩
                   have n2_ : Aside0 (Below w.heap.size w (((w20.setCell ⟨gb322, 0, none⟩ (.int .i64 ((rd_T47 l0_2 x9_1).f0))).setCell ⟨gb322, 1, none⟩ (.int .i64 ((rd_T47 l0_2 x9_1).f1))).setCell ⟨gb322, 2, none⟩ (.int .i64 ((rd_T47 l0_2 x9_1).f2)))) := ⟨L_⟩
                   (try clear BK320)
                   (try clear BK322)
                   (try clear HB)
                   generalize (((w20.setCell ⟨gb322, 0, none⟩ (.int .i64 ((rd_T47 l0_2 x9_1).f0))).setCell ⟨gb322, 1, none⟩ (.int .i64 ((rd_T47 l0_2 x9_1).f1))).setCell ⟨gb322, 2, none⟩ (.int .i64 ((rd_T47 l0_2 x9_1).f2))) = w23 at n0_ n1_ n2_ ⊢
                   have BK320 := n0_
                   have BK322 := n1_
                   have HB := n2_
                   clear n0_ n1_ n2_
                   have n0_ := Aside0.mk (blk_drew BK320.out)
                   have n1_ := Aside0.mk (blk_drew BK322.out)
                   have n2_ := Aside0.mk (below_drew1 HB.out)
                   clear BK320
                   clear BK322
                   clear HB
                   have BK320 := n0_
                   have BK322 := n1_
                   have HB := n2_
                   clear n0_ n1_ n2_
                   have p324 : 0 ≤ ((ji10) : Int) := of_decide_eq_true As_
                   have q324 : (ji10) < (l0_2.length : Int) := of_decide_eq_true As_
                   obtain ⟨ad324, e324, hx324_0, hx324_1, hx324_2⟩ := at_T47 HR0_2.out (ji10) p324 q324
                   have hw324_2 := hx324_2
                   have hw324_1 := hx324_1
                   have hw324_0 := hx324_0
                   obtain rfl : ad321 = ad324 := (by injection e324)
                   replace hx324_0 := Hx_ HB hx324_0
                   replace hx324_1 := Hx_ HB hx324_1
                   replace hx324_2 := Hx_ HB hx324_2
                   replace p324 := eq_true p324
                   replace q324 := eq_true q324
                   refine st_ 19 (fun w' => w'.cell? ⟨gb322, 0, none⟩ = some (.int .i64 ((rd_T47 l0_2 x9_1).f0)) ∧ w'.cell? ⟨gb322, 1, none⟩ = some (.int .i64 ((rd_T47 l0_2 x9_1).f1)) ∧ w'.cell? ⟨gb322, 2, none⟩ = some (.int .i64 ((rd_T47 l0_2 x9_1).f2)) ∧ w'.cell? ⟨gb320, 0, none⟩ = some (.int .i64 a0_0) ∧ w'.cell? ⟨gb320, 1, none⟩ = some (.slice A0_1 l0_1.length c0_1) ∧ w'.cell? ⟨gb320, 2, none⟩ = some (.slice (some ad321) l0_2.length c0_2) ∧ w'.cell? (ad321.add (((ji10)).toNat * 3)) = some (.int .i64 ((rd_T47 l0_2 (ji10)).f0)) ∧ w'.cell? ⟨(ad321.add (((ji10)).toNat * 3)).block, (ad321.add (((ji10)).toNat * 3)).off + 1, none⟩ = some (.int .i64 ((rd_T47 l0_2 (ji10)).f1)) ∧ w'.cell? ⟨(ad321.add (((ji10)).toNat * 3)).block, (ad321.add (((ji10)).toNat * 3)).off + 2, none⟩ = some (.int .i64 ((rd_T47 l0_2 (ji10)).f2))) [] ⟨(blk_cell BK322.out 0).trans rfl, (blk_cell BK322.out 1).trans rfl, (blk_cell BK322.out 2).trans rfl, (blk_cell BK320.out 0).trans rfl, (blk_cell BK320.out 1).trans rfl, (blk_cell BK320.out 2).trans rfl, ((HB.out.cell (World.block_lt_of_cell? w _ hw324_0)).trans hw324_0), ((HB.out.cell (World.block_lt_of_cell? w _ hw324_1)).trans hw324_1), ((HB.out.cell (World.block_lt_of_cell? w _ hw324_2)).trans hw324_2)⟩ (fun hHeld => ?_); refine with_tabW mainsheetref18_Right.tab4 mainsheetref18_Right.bits4 (fun HT_ HW_ => ?_)
                   generalize w23.drew = w24 at BK320 BK322 HB hx324_0 hx324_1 hx324_2 hHeld ⊢
                   refine ta_ 0 14 HT_ HW_ rfl rfl hHeld (by rintro w' ⟨s0, s1, s2, s3, s4, s5, s6, s7, s8⟩; go_simp; with_reducible rfl) ?_
                   refine on_ 1 15 HT_ rfl rfl (fun K hK => ?_)
                   refine goes_ Try.func42 (by kernel_rfl) rfl #[.agg #[.int .i64 ((rd_T47 l0_2 x9_1).f0), .int .i64 ((rd_T47 l0_2 x9_1).f1), .int .i64 ((rd_T47 l0_2 x9_1).f2)]] (by rfl) rfl rfl M_ ?_
                   with_reducible refine (mainsheetref18_Alarm.calls ((rd_T47 l0_2 x9_1).f0) ((rd_T47 l0_2 x9_1).f1) ((rd_T47 l0_2 x9_1).f2) true _ A7.out).mono ?_
                   rintro e w25 ⟨rfl, hb⟩
                   refine ⟨_, rfl, ?_⟩
                   have n0_ := Bb_ BK320 hb
                   have n1_ := Bb_ BK322 hb
                   have n2_ := Ls_ HB hb
                   clear BK320
                   clear BK322
                   clear HB
                   have BK320 := n0_
                   have BK322 := n1_
                   have HB := n2_
                   clear n0_ n1_ n2_
                   (try clear hb)
                   (try clear hb2)
                   (try clear hk)
                   (try clear hi)
                   refine hK.out _ _ ⟨(blk_cell BK322.out 0).trans rfl, (blk_cell BK322.out 1).trans rfl, (blk_cell BK322.out 2).trans rfl, (blk_cell BK320.out 0).trans rfl, (blk_cell BK320.out 1).trans rfl, (blk_cell BK320.out 2).trans rfl, ((HB.out.cell (World.block_lt_of_cell? w _ hw324_0)).trans hw324_0), ((HB.out.cell (World.block_lt_of_cell? w _ hw324_1)).trans hw324_1), ((HB.out.cell (World.block_lt_of_cell? w _ hw324_2)).trans hw324_2)⟩ (fun hHeld => ?_)
                   clear hK K
                   refine nm_ 15 ?_
                   refine pu_ 2 16 HT_ ?_
                   refine pu_ 3 17 HT_ ?_
                   refine pu_ 4 18 HT_ ?_
                   refine pu_ 5 19 HT_ ?_
                   refine pu_ 6 20 HT_ ?_
                   refine pu_ 7 21 HT_ ?_
                   refine pu_ 9 23 HT_ ?_
                   refine pu_ 10 24 HT_ ?_
                   refine pu_ 14 28 HT_ ?_
                   refine ta_ 8 22 HT_ HW_ rfl rfl hHeld (by rintro w' ⟨s0, s1, s2, s3, s4, s5, s6, s7, s8⟩; go_simp; with_reducible rfl) ?_
                   refine pu_ 11 25 HT_ ?_
                   refine pu_ 12 26 HT_ ?_
                   refine ta_ 13 27 HT_ HW_ rfl rfl hHeld (by rintro w' ⟨s0, s1, s2, s3, s4, s5, s6, s7, s8⟩; go_simp; with_reducible rfl) ?_
                   refine ta_ 15 29 HT_ HW_ rfl rfl hHeld (by rintro w' ⟨s0, s1, s2, s3, s4, s5, s6, s7, s8⟩; go_simp; with_reducible rfl) ?_
                   refine pu_ 16 30 HT_ ?_
                   refine pu_ 17 31 HT_ ?_
                   refine pu_ 18 32 HT_ ?_
                   refine done_ (done_of HT_.out (by kernel_rfl)) ?_
                   try go_wp2
                   go_roundg k1
                   case measure => have := HK1.out; omega
                   case rel => exact ⟨(wrap64 (x9_1 + 1)), S_, H', ⟨by have := HK1.out; omega⟩, ⟨B_ BK320⟩, ⟨L_⟩⟩
               · rw [if_neg c12] at H
                 exact absurd H (by simp)
             · rw [if_neg c11] at H
               exact absurd H (by simp)
           · rw [if_neg c9] at H
             have c9b0 : decide (0 < x9_1) = false := decide_eq_false c9
             clear c9
             have H' := Aside0.mk H
             clear H
             have p321 : 0 ≤ (x9_1 : Int) := of_decide_eq_true As_
             have q321 : x9_1 < (l0_2.length : Int) := of_decide_eq_true As_
             obtain ⟨ad321, e321, hx321_0, hx321_1, hx321_2⟩ := at_T47 HR0_2.out x9_1 p321 q321
             cases e321
             replace hx321_0 := Hx_ HB hx321_0
             replace hx321_1 := Hx_ HB hx321_1
             replace hx321_2 := Hx_ HB hx321_2
             replace p321 := eq_true p321
             replace q321 := eq_true q321
             try go_wp2_with (first | ((with_reducible refine gate_dst (N := 4) rfl ?_); refine box_ 4 47 #[.int .i64 0, .int .i64 0, .int .i64 0] ?_; intro gb322 hg w26 hbox hb; have BK322 := Aside0.mk (hbox); have GW322 := G_ hg HB; have GE322 := G_ hg HB; have NB320_322 := Nl_ hg BK320; have NB322_320 := Ng_ hg BK320; replace BK320 := Bb_ BK320 hb; replace HB := Ls_ HB hb; clear hb hbox hg; have hnb27 := NB322_320.out; have hnc27 := NB320_322.out; have hcz28_0 : w26.cell? ⟨gb322, 0, none⟩ = some (.int .i64 0) := (blk_cell BK322.out 0).trans rfl; have hcz28_1 : w26.cell? ⟨gb322, 1, none⟩ = some (.int .i64 0) := (blk_cell BK322.out 1).trans rfl; have hcz28_2 : w26.cell? ⟨gb322, 2, none⟩ = some (.int .i64 0) := (blk_cell BK322.out 2).trans rfl; have hfz28_0 := blk_frozen BK322.out 0; have hfz28_1 := blk_frozen BK322.out 1; have hfz28_2 := blk_frozen BK322.out 2))
             have n0_ : Aside0 ((((w26.setCell ⟨gb322, 0, none⟩ (.int .i64 ((rd_T47 l0_2 x9_1).f0))).setCell ⟨gb322, 1, none⟩ (.int .i64 ((rd_T47 l0_2 x9_1).f1))).setCell ⟨gb322, 2, none⟩ (.int .i64 ((rd_T47 l0_2 x9_1).f2))).heap[gb320]? = some (.cells #[.int .i64 a0_0, .slice A0_1 l0_1.length c0_1, .slice (some ad321) l0_2.length c0_2] 27 (0, 0))) := ⟨Bz_ BK320⟩
             have n1_ : Aside0 ((((w26.setCell ⟨gb322, 0, none⟩ (.int .i64 ((rd_T47 l0_2 x9_1).f0))).setCell ⟨gb322, 1, none⟩ (.int .i64 ((rd_T47 l0_2 x9_1).f1))).setCell ⟨gb322, 2, none⟩ (.int .i64 ((rd_T47 l0_2 x9_1).f2))).heap[gb322]? = some (.cells #[.int .i64 ((rd_T47 l0_2 x9_1).f0), .int .i64 ((rd_T47 l0_2 x9_1).f1), .int .i64 ((rd_T47 l0_2 x9_1).f2)] 47 (0, 0))) := ⟨by (with_reducible repeat (first | refine blk_drewN ?_ _ | refine blk_drew ?_ | refine blk_alloc ?_ _)); refine blk_put (cs := #[.int .i64 ((rd_T47 l0_2 x9_1).f0), .int .i64 ((rd_T47 l0_2 x9_1).f1), .int .i64 0]) ?_ 2 _ rfl; (with_reducible repeat (first | refine blk_drewN ?_ _ | refine blk_drew ?_ | refine blk_alloc ?_ _)); refine blk_put (cs := #[.int .i64 ((rd_T47 l0_2 x9_1).f0), .int .i64 0, .int .i64 0]) ?_ 1 _ rfl; (with_reducible repeat (first | refine blk_drewN ?_ _ | refine blk_drew ?_ | refine blk_alloc ?_ _)); refine blk_put (cs := #[.int .i64 0, .int .i64 0, .int .i64 0]) ?_ 0 _ rfl; (with_reducible repeat (first | refine blk_drewN ?_ _ | refine blk_drew ?_ | refine blk_alloc ?_ _)); exact BK322.out⟩
             have n2_ : Aside0 (Below w.heap.size w (((w26.setCell ⟨gb322, 0, none⟩ (.int .i64 ((rd_T47 l0_2 x9_1).f0))).setCell ⟨gb322, 1, none⟩ (.int .i64 ((rd_T47 l0_2 x9_1).f1))).setCell ⟨gb322, 2, none⟩ (.int .i64 ((rd_T47 l0_2 x9_1).f2)))) := ⟨L_⟩
             (try clear BK320)
             (try clear BK322)
             (try clear HB)
             generalize (((w26.setCell ⟨gb322, 0, none⟩ (.int .i64 ((rd_T47 l0_2 x9_1).f0))).setCell ⟨gb322, 1, none⟩ (.int .i64 ((rd_T47 l0_2 x9_1).f1))).setCell ⟨gb322, 2, none⟩ (.int .i64 ((rd_T47 l0_2 x9_1).f2))) = w29 at n0_ n1_ n2_ ⊢
             have BK320 := n0_
             have BK322 := n1_
             have HB := n2_
             clear n0_ n1_ n2_
             have n0_ := Aside0.mk (blk_drew BK320.out)
             have n1_ := Aside0.mk (blk_drew BK322.out)
             have n2_ := Aside0.mk (below_drew1 HB.out)
             clear BK320
             clear BK322
             clear HB
             have BK320 := n0_
             have BK322 := n1_
             have HB := n2_
             clear n0_ n1_ n2_
             refine st_ 19 (fun w' => w'.cell? ⟨gb322, 0, none⟩ = some (.int .i64 ((rd_T47 l0_2 x9_1).f0)) ∧ w'.cell? ⟨gb322, 1, none⟩ = some (.int .i64 ((rd_T47 l0_2 x9_1).f1)) ∧ w'.cell? ⟨gb322, 2, none⟩ = some (.int .i64 ((rd_T47 l0_2 x9_1).f2))) [] ⟨(blk_cell BK322.out 0).trans rfl, (blk_cell BK322.out 1).trans rfl, (blk_cell BK322.out 2).trans rfl⟩ (fun hHeld => ?_); refine with_tabW mainsheetref18_Right.tab4 mainsheetref18_Right.bits4 (fun HT_ HW_ => ?_)
             generalize w29.drew = w30 at BK320 BK322 HB hHeld ⊢
             refine ta_ 0 14 HT_ HW_ rfl rfl hHeld (by rintro w' ⟨s0, s1, s2⟩; go_simp; with_reducible rfl) ?_
             refine on_ 1 15 HT_ rfl rfl (fun K hK => ?_)
             refine goes_ Try.func42 (by kernel_rfl) rfl #[.agg #[.int .i64 ((rd_T47 l0_2 x9_1).f0), .int .i64 ((rd_T47 l0_2 x9_1).f1), .int .i64 ((rd_T47 l0_2 x9_1).f2)]] (by rfl) rfl rfl M_ ?_
             with_reducible refine (mainsheetref18_Alarm.calls ((rd_T47 l0_2 x9_1).f0) ((rd_T47 l0_2 x9_1).f1) ((rd_T47 l0_2 x9_1).f2) true _ A7.out).mono ?_
             rintro e w31 ⟨rfl, hb⟩
             refine ⟨_, rfl, ?_⟩
             have n0_ := Bb_ BK320 hb
             have n1_ := Bb_ BK322 hb
             have n2_ := Ls_ HB hb
             clear BK320
             clear BK322
             clear HB
             have BK320 := n0_
             have BK322 := n1_
             have HB := n2_
             clear n0_ n1_ n2_
             (try clear hb)
             (try clear hb2)
             (try clear hk)
             (try clear hi)
             refine hK.out _ _ ⟨(blk_cell BK322.out 0).trans rfl, (blk_cell BK322.out 1).trans rfl, (blk_cell BK322.out 2).trans rfl⟩ (fun hHeld => ?_)
             clear hK K
             refine nm_ 15 ?_
             refine pu_ 2 16 HT_ ?_
             refine pu_ 3 17 HT_ ?_
             refine pu_ 4 18 HT_ ?_
             refine pu_ 5 19 HT_ ?_
             refine pu_ 6 20 HT_ ?_
             refine of_ 7 21 HT_ ?_
             refine of_ 8 22 HT_ ?_
             refine of_ 9 23 HT_ ?_
             refine of_ 10 24 HT_ ?_
             refine of_ 11 25 HT_ ?_
             refine of_ 12 26 HT_ ?_
             refine of_ 13 27 HT_ ?_
             refine of_ 14 28 HT_ ?_
             refine of_ 15 29 HT_ ?_
             refine of_ 16 30 HT_ ?_
             refine pu_ 17 31 HT_ ?_
             refine pu_ 18 32 HT_ ?_
             refine done_ (done_of HT_.out (by kernel_rfl)) ?_
             try go_wp2
             go_roundg k1
             case measure => have := HK1.out; omega
             case rel => exact ⟨(wrap64 (x9_1 + 1)), S_, H', ⟨by have := HK1.out; omega⟩, ⟨B_ BK320⟩, ⟨L_⟩⟩
         · replace c8 := Bool.eq_false_iff.mpr c8
           subst c8
           have H1 : (some false) = some r := by rw [if_neg (show ¬ (false = true) by decide)] at H; exact H
           clear H
           have H := H1
           clear H1
           obtain rfl := Option.some.inj H
           have p321 : 0 ≤ (x9_1 : Int) := of_decide_eq_true As_
           have q321 : x9_1 < (l0_2.length : Int) := of_decide_eq_true As_
           obtain ⟨ad321, e321, hx321_0, hx321_1, hx321_2⟩ := at_T47 HR0_2.out x9_1 p321 q321
           cases e321
           replace hx321_0 := Hx_ HB hx321_0
           replace hx321_1 := Hx_ HB hx321_1
           replace hx321_2 := Hx_ HB hx321_2
           replace p321 := eq_true p321
           replace q321 := eq_true q321
           try go_wp2_with (first | ((with_reducible refine gate_dst (N := 4) rfl ?_); refine box_ 4 47 #[.int .i64 0, .int .i64 0, .int .i64 0] ?_; intro gb322 hg w32 hbox hb; have BK322 := Aside0.mk (hbox); have GW322 := G_ hg HB; have GE322 := G_ hg HB; have NB320_322 := Nl_ hg BK320; have NB322_320 := Ng_ hg BK320; replace BK320 := Bb_ BK320 hb; replace HB := Ls_ HB hb; clear hb hbox hg; have hnb33 := NB322_320.out; have hnc33 := NB320_322.out; have hcz34_0 : w32.cell? ⟨gb322, 0, none⟩ = some (.int .i64 0) := (blk_cell BK322.out 0).trans rfl; have hcz34_1 : w32.cell? ⟨gb322, 1, none⟩ = some (.int .i64 0) := (blk_cell BK322.out 1).trans rfl; have hcz34_2 : w32.cell? ⟨gb322, 2, none⟩ = some (.int .i64 0) := (blk_cell BK322.out 2).trans rfl; have hfz34_0 := blk_frozen BK322.out 0; have hfz34_1 := blk_frozen BK322.out 1; have hfz34_2 := blk_frozen BK322.out 2))
           have n0_ : Aside0 ((((w32.setCell ⟨gb322, 0, none⟩ (.int .i64 ((rd_T47 l0_2 x9_1).f0))).setCell ⟨gb322, 1, none⟩ (.int .i64 ((rd_T47 l0_2 x9_1).f1))).setCell ⟨gb322, 2, none⟩ (.int .i64 ((rd_T47 l0_2 x9_1).f2))).heap[gb320]? = some (.cells #[.int .i64 a0_0, .slice A0_1 l0_1.length c0_1, .slice (some ad321) l0_2.length c0_2] 27 (0, 0))) := ⟨Bz_ BK320⟩
           have n1_ : Aside0 ((((w32.setCell ⟨gb322, 0, none⟩ (.int .i64 ((rd_T47 l0_2 x9_1).f0))).setCell ⟨gb322, 1, none⟩ (.int .i64 ((rd_T47 l0_2 x9_1).f1))).setCell ⟨gb322, 2, none⟩ (.int .i64 ((rd_T47 l0_2 x9_1).f2))).heap[gb322]? = some (.cells #[.int .i64 ((rd_T47 l0_2 x9_1).f0), .int .i64 ((rd_T47 l0_2 x9_1).f1), .int .i64 ((rd_T47 l0_2 x9_1).f2)] 47 (0, 0))) := ⟨by (with_reducible repeat (first | refine blk_drewN ?_ _ | refine blk_drew ?_ | refine blk_alloc ?_ _)); refine blk_put (cs := #[.int .i64 ((rd_T47 l0_2 x9_1).f0), .int .i64 ((rd_T47 l0_2 x9_1).f1), .int .i64 0]) ?_ 2 _ rfl; (with_reducible repeat (first | refine blk_drewN ?_ _ | refine blk_drew ?_ | refine blk_alloc ?_ _)); refine blk_put (cs := #[.int .i64 ((rd_T47 l0_2 x9_1).f0), .int .i64 0, .int .i64 0]) ?_ 1 _ rfl; (with_reducible repeat (first | refine blk_drewN ?_ _ | refine blk_drew ?_ | refine blk_alloc ?_ _)); refine blk_put (cs := #[.int .i64 0, .int .i64 0, .int .i64 0]) ?_ 0 _ rfl; (with_reducible repeat (first | refine blk_drewN ?_ _ | refine blk_drew ?_ | refine blk_alloc ?_ _)); exact BK322.out⟩
           have n2_ : Aside0 (Below w.heap.size w (((w32.setCell ⟨gb322, 0, none⟩ (.int .i64 ((rd_T47 l0_2 x9_1).f0))).setCell ⟨gb322, 1, none⟩ (.int .i64 ((rd_T47 l0_2 x9_1).f1))).setCell ⟨gb322, 2, none⟩ (.int .i64 ((rd_T47 l0_2 x9_1).f2)))) := ⟨L_⟩
           (try clear BK320)
           (try clear BK322)
           (try clear HB)
           generalize (((w32.setCell ⟨gb322, 0, none⟩ (.int .i64 ((rd_T47 l0_2 x9_1).f0))).setCell ⟨gb322, 1, none⟩ (.int .i64 ((rd_T47 l0_2 x9_1).f1))).setCell ⟨gb322, 2, none⟩ (.int .i64 ((rd_T47 l0_2 x9_1).f2))) = w35 at n0_ n1_ n2_ ⊢
           have BK320 := n0_
           have BK322 := n1_
           have HB := n2_
           clear n0_ n1_ n2_
           have n0_ := Aside0.mk (blk_drew BK320.out)
           have n1_ := Aside0.mk (blk_drew BK322.out)
           have n2_ := Aside0.mk (below_drew1 HB.out)
           clear BK320
           clear BK322
           clear HB
           have BK320 := n0_
           have BK322 := n1_
           have HB := n2_
           clear n0_ n1_ n2_
           refine st_ 19 (fun w' => w'.cell? ⟨gb322, 0, none⟩ = some (.int .i64 ((rd_T47 l0_2 x9_1).f0)) ∧ w'.cell? ⟨gb322, 1, none⟩ = some (.int .i64 ((rd_T47 l0_2 x9_1).f1)) ∧ w'.cell? ⟨gb322, 2, none⟩ = some (.int .i64 ((rd_T47 l0_2 x9_1).f2))) [] ⟨(blk_cell BK322.out 0).trans rfl, (blk_cell BK322.out 1).trans rfl, (blk_cell BK322.out 2).trans rfl⟩ (fun hHeld => ?_); refine with_tabW mainsheetref18_Right.tab4 mainsheetref18_Right.bits4 (fun HT_ HW_ => ?_)
           generalize w35.drew = w36 at BK320 BK322 HB hHeld ⊢
           refine ta_ 0 14 HT_ HW_ rfl rfl hHeld (by rintro w' ⟨s0, s1, s2⟩; go_simp; with_reducible rfl) ?_
           refine on_ 1 15 HT_ rfl rfl (fun K hK => ?_)
           refine goes_ Try.func42 (by kernel_rfl) rfl #[.agg #[.int .i64 ((rd_T47 l0_2 x9_1).f0), .int .i64 ((rd_T47 l0_2 x9_1).f1), .int .i64 ((rd_T47 l0_2 x9_1).f2)]] (by rfl) rfl rfl M_ ?_
           with_reducible refine (mainsheetref18_Alarm.calls ((rd_T47 l0_2 x9_1).f0) ((rd_T47 l0_2 x9_1).f1) ((rd_T47 l0_2 x9_1).f2) false _ A7.out).mono ?_
           rintro e w37 ⟨rfl, hb⟩
           refine ⟨_, rfl, ?_⟩
           have n0_ := Bb_ BK320 hb
           have n1_ := Bb_ BK322 hb
           have n2_ := Ls_ HB hb
           clear BK320
           clear BK322
           clear HB
           have BK320 := n0_
           have BK322 := n1_
           have HB := n2_
           clear n0_ n1_ n2_
           (try clear hb)
           (try clear hb2)
           (try clear hk)
           (try clear hi)
           refine hK.out _ _ ⟨(blk_cell BK322.out 0).trans rfl, (blk_cell BK322.out 1).trans rfl, (blk_cell BK322.out 2).trans rfl⟩ (fun hHeld => ?_)
           clear hK K
           refine nm_ 15 ?_
           refine pu_ 2 16 HT_ ?_
           refine pu_ 3 17 HT_ ?_
           refine of_ 4 18 HT_ ?_
           refine of_ 5 19 HT_ ?_
           refine of_ 6 20 HT_ ?_
           refine of_ 7 21 HT_ ?_
           refine of_ 8 22 HT_ ?_
           refine of_ 9 23 HT_ ?_
           refine of_ 10 24 HT_ ?_
           refine of_ 11 25 HT_ ?_
           refine of_ 12 26 HT_ ?_
           refine of_ 13 27 HT_ ?_
           refine of_ 14 28 HT_ ?_
           refine of_ 15 29 HT_ ?_
           refine of_ 16 30 HT_ ?_
           refine of_ 17 31 HT_ ?_
           refine pu_ 18 32 HT_ ?_
           refine done_ (done_of HT_.out (by kernel_rfl)) ?_
           try go_wp2
           go_ret
           exact ⟨E_, L_⟩
       · rw [if_neg c6] at H
         exact absurd H (by simp)
     · rw [if_neg c5] at H
       exact absurd H (by simp)
   · rw [if_neg c4] at H
     have c4b0 : decide (x9_1 < (l0_2.length : Int)) = false := decide_eq_false c4
     clear c4
     replace H := Option.bind_eq_some_iff.mp H
     obtain ⟨t325, A380, H⟩ := H
     replace H : (if t325 = true then (mainsheetref18_Right.l1 k1 1 a0_0 l0_1 l0_2) else (some false)) = some r := H
     have A38 := Aside0.mk A380
     clear A380
     by_cases c39 : t325 = true
     · subst c39
       have H1 : (mainsheetref18_Right.l1 k1 1 a0_0 l0_1 l0_2) = some r := by rw [if_pos rfl] at H; exact H
       clear H
       have H := H1
       clear H1
       have H' := Aside0.mk H
       clear H
       have hcz40_0 : wr.cell? ⟨gb320, 0, none⟩ = some (.int .i64 a0_0) := (blk_cell BK320.out 0).trans rfl
       have hcz40_1 : wr.cell? ⟨gb320, 1, none⟩ = some (.slice A0_1 l0_1.length c0_1) := (blk_cell BK320.out 1).trans rfl
       have hcz40_2 : wr.cell? ⟨gb320, 2, none⟩ = some (.slice A0_2 l0_2.length c0_2) := (blk_cell BK320.out 2).trans rfl
       have hfz40_0 := blk_frozen BK320.out 0
       have hfz40_1 := blk_frozen BK320.out 1
       have hfz40_2 := blk_frozen BK320.out 2
       go_wp2_with (first | ((with_reducible refine gate_callee (f := 43) rfl ?_); refine goesL_ (some 36) rfl rfl Try.func43 (by kernel_rfl) rfl #[.agg #[.int .i64 a0_0, .slice A0_1 l0_1.length c0_1]] rfl M_ ?_; (with_reducible refine (mainsheetref15_Right.calls k1 a0_0 _ _ l0_1 true _ ?side1 ?side2 A38.out).mono ?_); (case side1 => exact C_ HR0_1); (case side2 => exact HC0_1.out); rintro e w41 ⟨rfl, hb⟩; refine ⟨_, rfl, ?_⟩; replace BK320 := Bb_ BK320 hb; replace HB := Ls_ HB hb; (try clear hb); (try clear hb2); (try clear hk); (try clear hi)))
       go_loopg [5] k1 (fun kq v5 w' => ∃ (x5_2 : Int), v5 = .int .i64 x5_2 ∧ Aside0 (mainsheetref18_Right.l1 kq x5_2 a0_0 l0_1 l0_2 = some r) ∧ Aside0 (kq ≤ k1) ∧ Aside0 (w'.heap[gb320]? = some (.cells #[.int .i64 a0_0, (.slice A0_1 l0_1.length c0_1), (.slice A0_2 l0_2.length c0_2)] 27 (0, 0))) ∧ Aside0 (Below w.heap.size w w'))
       case atStart => exact ⟨(1), S_, H', ⟨Nat.le_refl _⟩, ⟨B_ BK320⟩, ⟨L_⟩⟩
       case round =>
        clear H'
        try clear c1; try clear c2; try clear p2; try clear c3; try clear p3; try clear q3; try clear hx3; try clear c4; try clear c4b0; try clear c5; try clear c6; try clear p6; try clear c8; try clear c9; try clear c9b0; try clear c11; try clear c12; try clear c13; try clear c13b0; try clear c21; try clear c27; try clear p32; try clear q32; try clear hx32; try clear c33; try clear c39; try clear hcz22_0; try clear hcz22_1; try clear hcz22_2; try clear hcz28_0; try clear hcz28_1; try clear hcz28_2; try clear hcz34_0; try clear hcz34_1; try clear hcz34_2; try clear hcz40_0; try clear hcz40_1; try clear hcz40_2; try clear hfz22_0; try clear hfz22_1; try clear hfz22_2; try clear hfz28_0; try clear hfz28_1; try clear hfz28_2; try clear hfz34_0; try clear hfz34_1; try clear hfz34_2; try clear hfz40_0; try clear hfz40_1; try clear hfz40_2; try clear hx321_0; try clear hx321_1; try clear hx321_2; try clear hx324_0; try clear hx324_1; try clear hx324_2; try clear p321; try clear p324; try clear q321; try clear q324
        obtain ⟨x5_2, rfl, HA, HK2, BK320, HB⟩ := hrel
        cases gk with
        | zero => exact absurd HA.out (by simp [mainsheetref18_Right.l1])
        | succ k2 =>
         have H := HA.out
         clear HA
         simp only [mainsheetref18_Right.l1] at H
         by_cases c42 : x5_2 ≤ 16
         · rw [if_pos c42] at H
           have c42b0 : decide (x5_2 ≤ 16) = true := decide_eq_true c42
           clear c42
           replace H := Option.bind_eq_some_iff.mp H
           obtain ⟨t326, A430, H⟩ := H
           replace H : ((mainsheetref18_find.f k2 a0_0 l0_1 l0_2 x5_2).bind fun t327 => (if ((decide (t326 > 0)) != (decide (t327 ≥ 0))) = true then (some false) else (mainsheetref18_Right.l1 k2 (wrap64 (x5_2 + 1)) a0_0 l0_1 l0_2))) = some r := H
           have A43 := Aside0.mk A430
           clear A430
           replace H := Option.bind_eq_some_iff.mp H
           obtain ⟨t327, A440, H⟩ := H
           replace H : (if ((decide (t326 > 0)) != (decide (t327 ≥ 0))) = true then (some false) else (mainsheetref18_Right.l1 k2 (wrap64 (x5_2 + 1)) a0_0 l0_1 l0_2)) = some r := H
           have A44 := Aside0.mk A440
           clear A440
           by_cases c45 : ((decide (t326 > 0)) != (decide (t327 ≥ 0))) = true
           · rw [if_pos c45] at H
             have c45b0 : ((decide (t326 > 0)) != (decide (t327 ≥ 0))) = true := c45
             (try (have c45b1 : decide ((decide (t326 > 0)) = (decide (t327 ≥ 0))) = false := by simpa using c45))
             (try (have c45b2 : ((decide (t326 > 0)) == (decide (t327 ≥ 0))) = false := by simpa using c45))
             (try (have c45b3 : ¬ ((decide (t326 > 0)) = (decide (t327 ≥ 0))) := by simpa using c45))
             clear c45
             obtain rfl := Option.some.inj H
             try go_wp2
             have n0_ := Aside0.mk (blk_drew BK320.out)
             have n1_ := Aside0.mk (below_drew1 HB.out)
             clear BK320
             clear HB
             have BK320 := n0_
             have HB := n1_
             clear n0_ n1_
             refine st_ 11 (fun w' => w'.cell? ⟨gb320, 0, none⟩ = some (.int .i64 a0_0) ∧ w'.cell? ⟨gb320, 1, none⟩ = some (.slice A0_1 l0_1.length c0_1) ∧ w'.cell? ⟨gb320, 2, none⟩ = some (.slice A0_2 l0_2.length c0_2)) [] ⟨(blk_cell BK320.out 0).trans rfl, (blk_cell BK320.out 1).trans rfl, (blk_cell BK320.out 2).trans rfl⟩ (fun hHeld => ?_); refine with_tabW mainsheetref18_Right.tab12 mainsheetref18_Right.bits12 (fun HT_ HW_ => ?_)
             generalize wr.drew = w46 at BK320 HB hHeld ⊢
             refine pu_ 0 42 HT_ ?_
             refine pu_ 2 44 HT_ ?_
             refine pu_ 3 45 HT_ ?_
             refine pu_ 7 49 HT_ ?_
             refine ta_ 1 43 HT_ HW_ rfl rfl hHeld (by rintro w' ⟨s0, s1, s2⟩; go_simp; with_reducible rfl) ?_
             refine ta_ 6 48 HT_ HW_ rfl rfl hHeld (by rintro w' ⟨s0, s1, s2⟩; go_simp; with_reducible rfl) ?_
             refine on_ 4 46 HT_ rfl rfl (fun K hK => ?_)
             refine goes_ Try.func44 (by kernel_rfl) rfl #[.agg #[.int .i64 a0_0, .slice A0_1 l0_1.length c0_1], .int .i64 (wrap64 (x5_2 - 1))] (by rfl) rfl rfl M_ ?_
             with_reducible refine (mainsheetref15_At.calls k2 a0_0 _ _ l0_1 (wrap64 (x5_2 - 1)) t326 _ ?side1 ?side2 A43.out).mono ?_
             (case side1 => exact C_ HR0_1)
             (case side2 => exact HC0_1.out)
             rintro e w47 ⟨rfl, hb⟩
             refine ⟨_, rfl, ?_⟩
             have n0_ := Bb_ BK320 hb
             have n1_ := Ls_ HB hb
             clear BK320
             clear HB
             have BK320 := n0_
             have HB := n1_
             clear n0_ n1_
             (try clear hb)
             (try clear hb2)
             (try clear hk)
             (try clear hi)
             refine hK.out _ _ ⟨(blk_cell BK320.out 0).trans rfl, (blk_cell BK320.out 1).trans rfl, (blk_cell BK320.out 2).trans rfl⟩ (fun hHeld => ?_)
             clear hK K
             refine nm_ 46 ?_
             refine pu_ 5 47 HT_ ?_
             refine on_ 8 50 HT_ rfl rfl (fun K hK => ?_)
             refine goes_ Try.func45 (by kernel_rfl) rfl #[.agg #[.int .i64 a0_0, .slice A0_1 l0_1.length c0_1, .slice A0_2 l0_2.length c0_2], .int .i64 x5_2] (by rfl) rfl rfl M_ ?_
             with_reducible refine (mainsheetref18_find.calls k2 a0_0 _ _ l0_1 _ _ l0_2 x5_2 t327 _ ?side1 ?side2 ?side3 ?side4 A44.out).mono ?_
             (case side1 => exact C_ HR0_1)
             (case side2 => exact HC0_1.out)
             (case side3 => exact C_ HR0_2)
             (case side4 => exact HC0_2.out)
             rintro e w48 ⟨rfl, hb⟩
             refine ⟨_, rfl, ?_⟩
             have n0_ := Bb_ BK320 hb
             have n1_ := Ls_ HB hb
             clear BK320
             clear HB
             have BK320 := n0_
             have HB := n1_
             clear n0_ n1_
             (try clear hb)
             (try clear hb2)
             (try clear hk)
             (try clear hi)
             refine hK.out _ _ ⟨(blk_cell BK320.out 0).trans rfl, (blk_cell BK320.out 1).trans rfl, (blk_cell BK320.out 2).trans rfl⟩ (fun hHeld => ?_)
             clear hK K
             refine nm_ 50 ?_
             refine pu_ 9 51 HT_ ?_
             refine pu_ 10 52 HT_ ?_
             refine done_ (done_of HT_.out (by kernel_rfl)) ?_
             try go_wp2
             go_ret
             exact ⟨E_, L_⟩
           · rw [if_neg c45] at H
             have c45b0 : ((decide (t326 > 0)) != (decide (t327 ≥ 0))) = false := by simpa using c45
             (try (have c45b1 : decide ((decide (t326 > 0)) = (decide (t327 ≥ 0))) = true := by simpa using c45))
             (try (have c45b2 : ((decide (t326 > 0)) == (decide (t327 ≥ 0))) = true := by simpa using c45))
             clear c45
             have H' := Aside0.mk H
             clear H
             try go_wp2
             have n0_ := Aside0.mk (blk_drew BK320.out)
             have n1_ := Aside0.mk (below_drew1 HB.out)
             clear BK320
             clear HB
             have BK320 := n0_
             have HB := n1_
             clear n0_ n1_
             refine st_ 11 (fun w' => w'.cell? ⟨gb320, 0, none⟩ = some (.int .i64 a0_0) ∧ w'.cell? ⟨gb320, 1, none⟩ = some (.slice A0_1 l0_1.length c0_1) ∧ w'.cell? ⟨gb320, 2, none⟩ = some (.slice A0_2 l0_2.length c0_2)) [] ⟨(blk_cell BK320.out 0).trans rfl, (blk_cell BK320.out 1).trans rfl, (blk_cell BK320.out 2).trans rfl⟩ (fun hHeld => ?_); refine with_tabW mainsheetref18_Right.tab12 mainsheetref18_Right.bits12 (fun HT_ HW_ => ?_)
             generalize wr.drew = w49 at BK320 HB hHeld ⊢
             refine pu_ 0 42 HT_ ?_
             refine pu_ 2 44 HT_ ?_
             refine pu_ 3 45 HT_ ?_
             refine pu_ 7 49 HT_ ?_
             refine ta_ 1 43 HT_ HW_ rfl rfl hHeld (by rintro w' ⟨s0, s1, s2⟩; go_simp; with_reducible rfl) ?_
             refine ta_ 6 48 HT_ HW_ rfl rfl hHeld (by rintro w' ⟨s0, s1, s2⟩; go_simp; with_reducible rfl) ?_
             refine on_ 4 46 HT_ rfl rfl (fun K hK => ?_)
             refine goes_ Try.func44 (by kernel_rfl) rfl #[.agg #[.int .i64 a0_0, .slice A0_1 l0_1.length c0_1], .int .i64 (wrap64 (x5_2 - 1))] (by rfl) rfl rfl M_ ?_
             with_reducible refine (mainsheetref15_At.calls k2 a0_0 _ _ l0_1 (wrap64 (x5_2 - 1)) t326 _ ?side1 ?side2 A43.out).mono ?_
             (case side1 => exact C_ HR0_1)
             (case side2 => exact HC0_1.out)
             rintro e w50 ⟨rfl, hb⟩
             refine ⟨_, rfl, ?_⟩
             have n0_ := Bb_ BK320 hb
             have n1_ := Ls_ HB hb
             clear BK320
             clear HB
             have BK320 := n0_
             have HB := n1_
             clear n0_ n1_
             (try clear hb)
             (try clear hb2)
             (try clear hk)
             (try clear hi)
             refine hK.out _ _ ⟨(blk_cell BK320.out 0).trans rfl, (blk_cell BK320.out 1).trans rfl, (blk_cell BK320.out 2).trans rfl⟩ (fun hHeld => ?_)
             clear hK K
             refine nm_ 46 ?_
             refine pu_ 5 47 HT_ ?_
             refine on_ 8 50 HT_ rfl rfl (fun K hK => ?_)
             refine goes_ Try.func45 (by kernel_rfl) rfl #[.agg #[.int .i64 a0_0, .slice A0_1 l0_1.length c0_1, .slice A0_2 l0_2.length c0_2], .int .i64 x5_2] (by rfl) rfl rfl M_ ?_
             with_reducible refine (mainsheetref18_find.calls k2 a0_0 _ _ l0_1 _ _ l0_2 x5_2 t327 _ ?side1 ?side2 ?side3 ?side4 A44.out).mono ?_
             (case side1 => exact C_ HR0_1)
             (case side2 => exact HC0_1.out)
             (case side3 => exact C_ HR0_2)
             (case side4 => exact HC0_2.out)
             rintro e w51 ⟨rfl, hb⟩
             refine ⟨_, rfl, ?_⟩
             have n0_ := Bb_ BK320 hb
             have n1_ := Ls_ HB hb
             clear BK320
             clear HB
             have BK320 := n0_
             have HB := n1_
             clear n0_ n1_
             (try clear hb)
             (try clear hb2)
             (try clear hk)
             (try clear hi)
             refine hK.out _ _ ⟨(blk_cell BK320.out 0).trans rfl, (blk_cell BK320.out 1).trans rfl, (blk_cell BK320.out 2).trans rfl⟩ (fun hHeld => ?_)
             clear hK K
             refine nm_ 50 ?_
             refine pu_ 9 51 HT_ ?_
             refine pu_ 10 52 HT_ ?_
             refine done_ (done_of HT_.out (by kernel_rfl)) ?_
             try go_wp2
             go_roundg k2
             case measure => have := HK1.out; have := HK2.out; omega
             case rel => exact ⟨(wrap64 (x5_2 + 1)), S_, H', ⟨by have := HK1.out; have := HK2.out; omega⟩, ⟨B_ BK320⟩, ⟨L_⟩⟩
         · rw [if_neg c42] at H
           have c42b0 : decide (x5_2 ≤ 16) = false := decide_eq_false c42
           clear c42
           obtain rfl := Option.some.inj H
           go_wp2
           go_ret
           exact ⟨E_, L_⟩
     · replace c39 := Bool.eq_false_iff.mpr c39
       subst c39
       have H1 : (some false) = some r := by rw [if_neg (show ¬ (false = true) by decide)] at H; exact H
       clear H
       have H := H1
       clear H1
       obtain rfl := Option.some.inj H
       have hcz52_0 : wr.cell? ⟨gb320, 0, none⟩ = some (.int .i64 a0_0) := (blk_cell BK320.out 0).trans rfl
       have hcz52_1 : wr.cell? ⟨gb320, 1, none⟩ = some (.slice A0_1 l0_1.length c0_1) := (blk_cell BK320.out 1).trans rfl
       have hcz52_2 : wr.cell? ⟨gb320, 2, none⟩ = some (.slice A0_2 l0_2.length c0_2) := (blk_cell BK320.out 2).trans rfl
       have hfz52_0 := blk_frozen BK320.out 0
       have hfz52_1 := blk_frozen BK320.out 1
       have hfz52_2 := blk_frozen BK320.out 2
       go_wp2_with (first | ((with_reducible refine gate_callee (f := 43) rfl ?_); refine goesL_ (some 36) rfl rfl Try.func43 (by kernel_rfl) rfl #[.agg #[.int .i64 a0_0, .slice A0_1 l0_1.length c0_1]] rfl M_ ?_; (with_reducible refine (mainsheetref15_Right.calls k1 a0_0 _ _ l0_1 false _ ?side1 ?side2 A38.out).mono ?_); (case side1 => exact C_ HR0_1); (case side2 => exact HC0_1.out); rintro e w53 ⟨rfl, hb⟩; refine ⟨_, rfl, ?_⟩; replace BK320 := Bb_ BK320 hb; replace HB := Ls_ HB hb; (try clear hb); (try clear hb2); (try clear hk); (try clear hi)))
       go_ret
       exact ⟨E_, L_⟩

end Go.Proofs.Ytlddekjlmkimnaa.C
