import Derived.Test.YtlddekjlmkimnaaJ5
import Derived.Test.YtlddekjlmkimnaaJ6
import Derived.Test.YtlddekjlmkimnaaC22
import Derived.Test.YtlddekjlmkimnaaC23
-- Written by a program of this session (wip/tools/stub.py, over the kit's print) and by hand; not the kit's print.
namespace Go.Proofs.Ytlddekjlmkimnaa.C
open Go.RowKit Go.Proofs.YtlddekjlmkimnaaW.PrintWords Go.Proofs.YtlddekjlmkimnaaW.PrintLast Go.Proofs.YtlddekjlmkimnaaW.PrintMore
attribute [local go_sem] max2_int min2_int max_two min_two max_three min_three max_four min_four   -- for this text's walks alone
set_option linter.unusedVariables false
set_option linter.unusedSimpArgs false

/-! ### mainsheetref18_Get: function 19 -/
def mainsheetref18_Get.f (k : Nat) (a0_0 : Int) (l0_1 : List (S88)) (l0_2 : List (S47)) (a1 : Int) : Option (Int × Int × Int × Int × Bool) := (mainsheetref18_find.f k a0_0 l0_1 l0_2 a1).bind fun t343 => (if t343 < 0 then (some (0, 0, 0, 0, false)) else (if 0 ≤ t343 then (if t343 < (l0_2.length : Int) then ((mainsheetref15_At.f k a0_0 l0_1 (wrap64 (a1 - 1))).bind fun t345 => (some ((rd_T47 l0_2 t343).f0, (rd_T47 l0_2 t343).f1, (rd_T47 l0_2 t343).f2, t345, true))) else (none)) else (none)))
theorem mainsheetref18_Get.mono : ∀ a0 a1 a2 a3 k, LeO (mainsheetref18_Get.f k a0 a1 a2 a3) (mainsheetref18_Get.f (k + 1) a0 a1 a2 a3) := by
 intro a0 a1 a2 a3 k
 unfold mainsheetref18_Get.f
 repeat' first
  | (with_reducible exact mainsheetref15_At.mono _ _ _ _)
  | (with_reducible exact mainsheetref18_find.mono _ _ _ _ _)
  | (with_reducible exact LeO.refl _)
  | (with_reducible exact LeO.none _)
  | (with_reducible refine LeO.ite ?_ ?_)
  | (with_reducible refine LeO.bind ?_ (fun _ => ?_))
  | exact mainsheetref15_At.mono _ _ _ _
  | exact mainsheetref18_find.mono _ _ _ _ _
  | exact LeO.none _
  | refine LeO.ite ?_ ?_
  | refine LeO.bind ?_ (fun _ => ?_)
def mainsheetref18_Get.T4 : Bool × List (List Nat × List Nat) := (true, [([], []), ([0], [0]), ([], []), ([1, 2], [1, 2]), ([3], [3]), ([], []), ([5], [5]), ([], []), ([7], [7]), ([6, 8], [6, 8]), ([4, 9, 0, 1, 2, 3, 4], [4]), ([9, 10, 0, 1, 2, 3, 4, 5, 6, 7, 8, 9, 10], [9]), ([11, 0, 1, 2, 3, 4, 5, 6, 7, 8, 9, 10, 11], [])])
def mainsheetref18_Get.B4 : List Nat := [0, 1, 0, 7, 15, 0, 32, 0, 128, 480, 1023, 2047, 4095]
theorem mainsheetref18_Get.tab4 : rtab .any (opsOf Try.f19 4) = mainsheetref18_Get.T4 := by kernel_rfl
theorem mainsheetref18_Get.bits4 : waitsOk mainsheetref18_Get.T4.2 mainsheetref18_Get.B4 = true := by kernel_rfl
set_option maxHeartbeats 8000000 in
set_option maxRecDepth 100000 in
theorem mainsheetref18_Get.calls (k : Nat) (a0_0 : Int) (A0_1 : Option Addr) (c0_1 : Nat) (l0_1 : List (S88)) (A0_2 : Option Addr) (c0_2 : Nat) (l0_2 : List (S47)) (a1 : Int) (r1 : Int) (r2 : Int) (r3 : Int) (r4 : Int) (r5 : Bool) (w : World) (hr0_1 : Kd.C k88 w A0_1 l0_1.length l0_1) (hc0_1 : l0_1.length ≤ c0_1) (hr0_2 : Kd.C k47 w A0_2 l0_2.length l0_2) (hc0_2 : l0_2.length ≤ c0_2) (h : mainsheetref18_Get.f k a0_0 l0_1 l0_2 a1 = some (r1, r2, r3, r4, r5)) :
 Calls Try.prog 19 #[.agg #[.int .i64 a0_0, .slice A0_1 l0_1.length c0_1, .slice A0_2 l0_2.length c0_2], .int .i64 a1] w fun e w' => e = .returned (.tuple #[.agg #[.int .i64 r1, .int .i64 r2, .int .i64 r3], .int .i64 r4, .bool r5]) ∧ Below w.heap.size w w' := by
 have hu27 := Try.underlying27
 have hu47 := Try.underlying47
 have hu24 := Try.underlying24
 have HR0_1 := Aside0.mk hr0_1
 have HC0_1 := Aside0.mk hc0_1
 clear hr0_1 hc0_1
 have HR0_2 := Aside0.mk hr0_2
 have HC0_2 := Aside0.mk hc0_2
 clear hr0_2 hc0_2
 have HB := Aside0.mk (Below.refl w.heap.size w)
 have H : ((mainsheetref18_find.f k a0_0 l0_1 l0_2 a1).bind fun t343 => (if t343 < 0 then (some (0, 0, 0, 0, false)) else (if 0 ≤ t343 then (if t343 < (l0_2.length : Int) then ((mainsheetref15_At.f k a0_0 l0_1 (wrap64 (a1 - 1))).bind fun t345 => (some ((rd_T47 l0_2 t343).f0, (rd_T47 l0_2 t343).f1, (rd_T47 l0_2 t343).f2, t345, true))) else (none)) else (none)))) = some (r1, r2, r3, r4, r5) := h
 clear h
 replace H := Option.bind_eq_some_iff.mp H
 obtain ⟨t343, A30, H⟩ := H
 replace H : (if t343 < 0 then (some (0, 0, 0, 0, false)) else (if 0 ≤ t343 then (if t343 < (l0_2.length : Int) then ((mainsheetref15_At.f k a0_0 l0_1 (wrap64 (a1 - 1))).bind fun t345 => (some ((rd_T47 l0_2 t343).f0, (rd_T47 l0_2 t343).f1, (rd_T47 l0_2 t343).f2, t345, true))) else (none)) else (none))) = some (r1, r2, r3, r4, r5) := H
 have A3 := Aside0.mk A30
 clear A30
 by_cases c4 : t343 < 0
 · rw [if_pos c4] at H
   have c4b0 : decide (t343 < 0) = true := decide_eq_true c4
   clear c4
   simp only [Option.some.injEq, Prod.mk.injEq] at H
   obtain ⟨rfl, rfl, rfl, rfl, rfl⟩ := H
   go_enter Try.func19, Try.ntmps19
   go_wp2_with (first | ((with_reducible refine gate_dst (N := 2) rfl ?_); refine box_ 2 27 #[.int .i64 a0_0, .slice A0_1 l0_1.length c0_1, .slice A0_2 l0_2.length c0_2] ?_; intro gb341 hg w5 hbox hb; have BK341 := Aside0.mk (hbox); have GW341 := G_ hg HB; have GE341 := G_ hg HB; replace HB := Ls_ HB hb; clear hb hbox hg) | ((with_reducible refine gate_dst (N := 4) rfl ?_); refine box_ 4 47 #[.int .i64 0, .int .i64 0, .int .i64 0] ?_; intro gb342 hg w6 hbox hb; have BK342 := Aside0.mk (hbox); have GW342 := G_ hg HB; have GE342 := G_ hg HB; have NB341_342 := Nl_ hg BK341; have NB342_341 := Ng_ hg BK341; replace BK341 := Bb_ BK341 hb; replace HB := Ls_ HB hb; clear hb hbox hg; have hnb7 := NB341_342.out; have hnc7 := NB342_341.out; have hcz8_0 : w6.cell? ⟨gb341, 0, none⟩ = some (.int .i64 a0_0) := (blk_cell BK341.out 0).trans rfl; have hcz8_1 : w6.cell? ⟨gb341, 1, none⟩ = some (.slice A0_1 l0_1.length c0_1) := (blk_cell BK341.out 1).trans rfl; have hcz8_2 : w6.cell? ⟨gb341, 2, none⟩ = some (.slice A0_2 l0_2.length c0_2) := (blk_cell BK341.out 2).trans rfl; have hfz8_0 := blk_frozen BK341.out 0; have hfz8_1 := blk_frozen BK341.out 1; have hfz8_2 := blk_frozen BK341.out 2) | ((with_reducible refine gate_callee (f := 45) rfl ?_); refine goesL_ (some 10) rfl rfl Try.func45 (by kernel_rfl) rfl #[.agg #[.int .i64 a0_0, .slice A0_1 l0_1.length c0_1, .slice A0_2 l0_2.length c0_2], .int .i64 a1] rfl M_ ?_; (with_reducible refine (mainsheetref18_find.calls k a0_0 _ _ l0_1 _ _ l0_2 a1 t343 _ ?side1 ?side2 ?side3 ?side4 A3.out).mono ?_); (case side1 => exact C_ HR0_1); (case side2 => exact HC0_1.out); (case side3 => exact C_ HR0_2); (case side4 => exact HC0_2.out); rintro e w9 ⟨rfl, hb⟩; refine ⟨_, rfl, ?_⟩; replace BK341 := Bb_ BK341 hb; replace BK342 := Bb_ BK342 hb; replace HB := Ls_ HB hb; (try clear hb); (try clear hb2); (try clear hk); (try clear hi); have hcz10_0 : w9.cell? ⟨gb342, 0, none⟩ = some (.int .i64 0) := (blk_cell BK342.out 0).trans rfl; have hcz10_1 : w9.cell? ⟨gb342, 1, none⟩ = some (.int .i64 0) := (blk_cell BK342.out 1).trans rfl; have hcz10_2 : w9.cell? ⟨gb342, 2, none⟩ = some (.int .i64 0) := (blk_cell BK342.out 2).trans rfl; have hfz10_0 := blk_frozen BK342.out 0; have hfz10_1 := blk_frozen BK342.out 1; have hfz10_2 := blk_frozen BK342.out 2))
   refine bodyPost_ret (results_ctt rfl _ _ gb342 47 #[.int .i64 0, .int .i64 0, .int .i64 0] (0, 0) _ rfl (by (with_reducible repeat (first | refine blk_drewN ?_ _ | refine blk_drew ?_ | refine blk_alloc ?_ _)); refine blk_put (cs := #[.int .i64 0, .int .i64 0, .int .i64 0]) ?_ 2 _ rfl; (with_reducible repeat (first | refine blk_drewN ?_ _ | refine blk_drew ?_ | refine blk_alloc ?_ _)); refine blk_put (cs := #[.int .i64 0, .int .i64 0, .int .i64 0]) ?_ 1 _ rfl; (with_reducible repeat (first | refine blk_drewN ?_ _ | refine blk_drew ?_ | refine blk_alloc ?_ _)); refine blk_put (cs := #[.int .i64 0, .int .i64 0, .int .i64 0]) ?_ 0 _ rfl; (with_reducible repeat (first | refine blk_drewN ?_ _ | refine blk_drew ?_ | refine blk_alloc ?_ _)); exact BK342.out) Try.underlying47 rfl (by kernel_rfl)) rfl ?_
   exact ⟨E_, L_⟩
 · rw [if_neg c4] at H
   have c4b0 : decide (t343 < 0) = false := decide_eq_false c4
   clear c4
   by_cases c11 : 0 ≤ t343
   · rw [if_pos c11] at H
     have c11b0 : decide (0 ≤ t343) = true := decide_eq_true c11
     clear c11
     by_cases c12 : t343 < (l0_2.length : Int)
     · rw [if_pos c12] at H
       have c12b0 : decide (t343 < (l0_2.length : Int)) = true := decide_eq_true c12
       clear c12
       replace H := Option.bind_eq_some_iff.mp H
       obtain ⟨t345, A130, H⟩ := H
       replace H : (some ((rd_T47 l0_2 t343).f0, (rd_T47 l0_2 t343).f1, (rd_T47 l0_2 t343).f2, t345, true)) = some (r1, r2, r3, r4, r5) := H
       have A13 := Aside0.mk A130
       clear A130
       simp only [Option.some.injEq, Prod.mk.injEq] at H
       obtain ⟨rfl, rfl, rfl, rfl, rfl⟩ := H
       go_enter Try.func19, Try.ntmps19
       try go_wp2_with (first | ((with_reducible refine gate_dst (N := 2) rfl ?_); refine box_ 2 27 #[.int .i64 a0_0, .slice A0_1 l0_1.length c0_1, .slice A0_2 l0_2.length c0_2] ?_; intro gb341 hg w14 hbox hb; have BK341 := Aside0.mk (hbox); have GW341 := G_ hg HB; have GE341 := G_ hg HB; replace HB := Ls_ HB hb; clear hb hbox hg) | ((with_reducible refine gate_dst (N := 4) rfl ?_); refine box_ 4 47 #[.int .i64 0, .int .i64 0, .int .i64 0] ?_; intro gb342 hg w15 hbox hb; have BK342 := Aside0.mk (hbox); have GW342 := G_ hg HB; have GE342 := G_ hg HB; have NB341_342 := Nl_ hg BK341; have NB342_341 := Ng_ hg BK341; replace BK341 := Bb_ BK341 hb; replace HB := Ls_ HB hb; clear hb hbox hg; have hnb16 := NB341_342.out; have hnc16 := NB342_341.out; have hcz17_0 : w15.cell? ⟨gb341, 0, none⟩ = some (.int .i64 a0_0) := (blk_cell BK341.out 0).trans rfl; have hcz17_1 : w15.cell? ⟨gb341, 1, none⟩ = some (.slice A0_1 l0_1.length c0_1) := (blk_cell BK341.out 1).trans rfl; have hcz17_2 : w15.cell? ⟨gb341, 2, none⟩ = some (.slice A0_2 l0_2.length c0_2) := (blk_cell BK341.out 2).trans rfl; have hfz17_0 := blk_frozen BK341.out 0; have hfz17_1 := blk_frozen BK341.out 1; have hfz17_2 := blk_frozen BK341.out 2) | ((with_reducible refine gate_callee (f := 45) rfl ?_); refine goesL_ (some 10) rfl rfl Try.func45 (by kernel_rfl) rfl #[.agg #[.int .i64 a0_0, .slice A0_1 l0_1.length c0_1, .slice A0_2 l0_2.length c0_2], .int .i64 a1] rfl M_ ?_; (with_reducible refine (mainsheetref18_find.calls k a0_0 _ _ l0_1 _ _ l0_2 a1 t343 _ ?side1 ?side2 ?side3 ?side4 A3.out).mono ?_); (case side1 => exact C_ HR0_1); (case side2 => exact HC0_1.out); (case side3 => exact C_ HR0_2); (case side4 => exact HC0_2.out); rintro e w18 ⟨rfl, hb⟩; refine ⟨_, rfl, ?_⟩; replace BK341 := Bb_ BK341 hb; replace BK342 := Bb_ BK342 hb; replace HB := Ls_ HB hb; (try clear hb); (try clear hb2); (try clear hk); (try clear hi)))
       have n0_ := Aside0.mk (blk_drew BK341.out)
       have n1_ := Aside0.mk (blk_drew BK342.out)
       have n2_ := Aside0.mk (below_drew1 HB.out)
       clear BK341
       clear BK342
       clear HB
       have BK341 := n0_
       have BK342 := n1_
       have HB := n2_
       clear n0_ n1_ n2_
       have p344 : 0 ≤ (t343 : Int) := of_decide_eq_true As_
       have q344 : t343 < (l0_2.length : Int) := of_decide_eq_true As_
       obtain ⟨ad344, e344, hx344_0, hx344_1, hx344_2⟩ := at_T47 HR0_2.out t343 p344 q344
       have hw344_2 := hx344_2
       have hw344_1 := hx344_1
       have hw344_0 := hx344_0
       cases e344
       replace hx344_0 := Hx_ HB hx344_0
       replace hx344_1 := Hx_ HB hx344_1
       replace hx344_2 := Hx_ HB hx344_2
       replace p344 := eq_true p344
       replace q344 := eq_true q344
       refine st_ 13 (fun w' => w'.cell? ⟨gb341, 0, none⟩ = some (.int .i64 a0_0) ∧ w'.cell? ⟨gb341, 1, none⟩ = some (.slice A0_1 l0_1.length c0_1) ∧ w'.cell? ⟨gb341, 2, none⟩ = some (.slice (some ad344) l0_2.length c0_2) ∧ w'.cell? (ad344.add ((t343).toNat * 3)) = some (.int .i64 ((rd_T47 l0_2 t343).f0)) ∧ w'.cell? ⟨(ad344.add ((t343).toNat * 3)).block, (ad344.add ((t343).toNat * 3)).off + 1, none⟩ = some (.int .i64 ((rd_T47 l0_2 t343).f1)) ∧ w'.cell? ⟨(ad344.add ((t343).toNat * 3)).block, (ad344.add ((t343).toNat * 3)).off + 2, none⟩ = some (.int .i64 ((rd_T47 l0_2 t343).f2))) [] ⟨(blk_cell BK341.out 0).trans rfl, (blk_cell BK341.out 1).trans rfl, (blk_cell BK341.out 2).trans rfl, ((HB.out.cell (World.block_lt_of_cell? w _ hw344_0)).trans hw344_0), ((HB.out.cell (World.block_lt_of_cell? w _ hw344_1)).trans hw344_1), ((HB.out.cell (World.block_lt_of_cell? w _ hw344_2)).trans hw344_2)⟩ (fun hHeld => ?_); refine with_tabW mainsheetref18_Get.tab4 mainsheetref18_Get.bits4 (fun HT_ HW_ => ?_)
       generalize w18.drew = w19 at BK341 BK342 HB hx344_0 hx344_1 hx344_2 hHeld ⊢
       refine pu_ 0 14 HT_ ?_
       refine pu_ 2 16 HT_ ?_
       refine pu_ 5 19 HT_ ?_
       refine pu_ 7 21 HT_ ?_
       refine pu_ 8 22 HT_ ?_
       refine ta_ 1 15 HT_ HW_ rfl rfl hHeld (by rintro w' ⟨s0, s1, s2, s3, s4, s5⟩; go_simp; with_reducible rfl) ?_
       refine pu_ 3 17 HT_ ?_
       refine ta_ 4 18 HT_ HW_ rfl rfl hHeld (by rintro w' ⟨s0, s1, s2, s3, s4, s5⟩; go_simp; with_reducible rfl) ?_
       refine ta_ 6 20 HT_ HW_ rfl rfl hHeld (by rintro w' ⟨s0, s1, s2, s3, s4, s5⟩; go_simp; with_reducible rfl) ?_
       refine on_ 9 23 HT_ rfl rfl (fun K hK => ?_)
       refine goes_ Try.func44 (by kernel_rfl) rfl #[.agg #[.int .i64 a0_0, .slice A0_1 l0_1.length c0_1], .int .i64 (wrap64 (a1 - 1))] (by rfl) rfl rfl M_ ?_
       with_reducible refine (mainsheetref15_At.calls k a0_0 _ _ l0_1 (wrap64 (a1 - 1)) t345 _ ?side1 ?side2 A13.out).mono ?_
       (case side1 => exact C_ HR0_1)
       (case side2 => exact HC0_1.out)
       rintro e w20 ⟨rfl, hb⟩
       refine ⟨_, rfl, ?_⟩
       have n0_ := Bb_ BK341 hb
       have n1_ := Bb_ BK342 hb
       have n2_ := Ls_ HB hb
       clear BK341
       clear BK342
       clear HB
       have BK341 := n0_
       have BK342 := n1_
       have HB := n2_
       clear n0_ n1_ n2_
       (try clear hb)
       (try clear hb2)
       (try clear hk)
       (try clear hi)
       refine hK.out _ _ ⟨(blk_cell BK341.out 0).trans rfl, (blk_cell BK341.out 1).trans rfl, (blk_cell BK341.out 2).trans rfl, ((HB.out.cell (World.block_lt_of_cell? w _ hw344_0)).trans hw344_0), ((HB.out.cell (World.block_lt_of_cell? w _ hw344_1)).trans hw344_1), ((HB.out.cell (World.block_lt_of_cell? w _ hw344_2)).trans hw344_2)⟩ (fun hHeld => ?_)
       clear hK K
       refine nm_ 23 ?_
       refine one_ (i := 10) (N := none) #[true, true, true, true, true, true, true, true, true, true, true, false, false] rfl rfl (one_of HT_.out (by kernel_rfl)) (by decide) (fun K hK => ?_)
       have hs21 : w20.cell? ⟨gb342, 0, none⟩ = some (.int .i64 0) := (blk_cell BK342.out 0).trans rfl
       have hfs21 := blk_frozen BK342.out 0
       have hns21_0 := NB341_342.out
       have hms21_0 := NB342_341.out
       have hs22 : w20.cell? ⟨gb342, 1, none⟩ = some (.int .i64 0) := (blk_cell BK342.out 1).trans rfl
       have hfs22 := blk_frozen BK342.out 1
       have hns22_0 := NB341_342.out
       have hms22_0 := NB342_341.out
       have hs23 : w20.cell? ⟨gb342, 2, none⟩ = some (.int .i64 0) := (blk_cell BK342.out 2).trans rfl
       have hfs23 := blk_frozen BK342.out 2
       have hns23_0 := NB341_342.out
       have hms23_0 := NB342_341.out
       refine skip_ (w1 := ?_) (by rfl) rfl ?_ ?_
       rotate_left
       · go_simp
         rfl
       refine hK.out _ _ ⟨((cell_far (p := ⟨gb342, _, none⟩) NB341_342.out _).trans (((cell_far (p := ⟨gb342, _, none⟩) NB341_342.out _).trans (((cell_far (p := ⟨gb342, _, none⟩) NB341_342.out _).trans (hHeld.1)))))), ((cell_far (p := ⟨gb342, _, none⟩) NB341_342.out _).trans (((cell_far (p := ⟨gb342, _, none⟩) NB341_342.out _).trans (((cell_far (p := ⟨gb342, _, none⟩) NB341_342.out _).trans (hHeld.2.1)))))), ((cell_far (p := ⟨gb342, _, none⟩) NB341_342.out _).trans (((cell_far (p := ⟨gb342, _, none⟩) NB341_342.out _).trans (((cell_far (p := ⟨gb342, _, none⟩) NB341_342.out _).trans (hHeld.2.2.1)))))), ((cell_far (p := ⟨gb342, _, none⟩) (Hn_ hw344_0 GW342) _).trans (((cell_far (p := ⟨gb342, _, none⟩) (Hn_ hw344_0 GW342) _).trans (((cell_far (p := ⟨gb342, _, none⟩) (Hn_ hw344_0 GW342) _).trans (hHeld.2.2.2.1)))))), ((cell_far (p := ⟨gb342, _, none⟩) (Hn_ hw344_1 GW342) _).trans (((cell_far (p := ⟨gb342, _, none⟩) (Hn_ hw344_1 GW342) _).trans (((cell_far (p := ⟨gb342, _, none⟩) (Hn_ hw344_1 GW342) _).trans (hHeld.2.2.2.2.1)))))), ((cell_far (p := ⟨gb342, _, none⟩) (Hn_ hw344_2 GW342) _).trans (((cell_far (p := ⟨gb342, _, none⟩) (Hn_ hw344_2 GW342) _).trans (((cell_far (p := ⟨gb342, _, none⟩) (Hn_ hw344_2 GW342) _).trans (hHeld.2.2.2.2.2))))))⟩ (fun hHeld => ?_)
       clear hK K
       refine pu_ 11 5 HT_ ?_
       refine pu_ 12 6 HT_ ?_
       refine done_ (done_of HT_.out (by kernel_rfl)) ?_
       try go_wp2
       refine bodyPost_ret (results_ctt rfl _ _ gb342 47 #[.int .i64 ((rd_T47 l0_2 t343).f0), .int .i64 ((rd_T47 l0_2 t343).f1), .int .i64 ((rd_T47 l0_2 t343).f2)] (0, 0) _ rfl (by (with_reducible repeat (first | refine blk_drewN ?_ _ | refine blk_drew ?_ | refine blk_alloc ?_ _)); refine blk_put (cs := #[.int .i64 ((rd_T47 l0_2 t343).f0), .int .i64 ((rd_T47 l0_2 t343).f1), .int .i64 0]) ?_ 2 _ rfl; (with_reducible repeat (first | refine blk_drewN ?_ _ | refine blk_drew ?_ | refine blk_alloc ?_ _)); refine blk_put (cs := #[.int .i64 ((rd_T47 l0_2 t343).f0), .int .i64 0, .int .i64 0]) ?_ 1 _ rfl; (with_reducible repeat (first | refine blk_drewN ?_ _ | refine blk_drew ?_ | refine blk_alloc ?_ _)); refine blk_put (cs := #[.int .i64 0, .int .i64 0, .int .i64 0]) ?_ 0 _ rfl; (with_reducible repeat (first | refine blk_drewN ?_ _ | refine blk_drew ?_ | refine blk_alloc ?_ _)); exact BK342.out) Try.underlying47 rfl (by kernel_rfl)) rfl ?_
       exact ⟨E_, L_⟩
     · rw [if_neg c12] at H
       exact absurd H (by simp)
   · rw [if_neg c11] at H
     exact absurd H (by simp)

/-! ### mainsheetref18_Sleeps: function 20 -/
def mainsheetref18_Sleeps.f (k : Nat) (a0_0 : Int) (l0_1 : List (S88)) (l0_2 : List (S47)) (a1 : Int) : Option (Int) := (mainsheetref16_Vcpu.f a1).bind fun t347 => (if t347 = true then ((mainsheetref15_At.f k a0_0 l0_1 (wrap64 ((wrap64 (16 + a1)) - 1))).bind fun t348 => (some t348)) else (some 0))
theorem mainsheetref18_Sleeps.mono : ∀ a0 a1 a2 a3 k, LeO (mainsheetref18_Sleeps.f k a0 a1 a2 a3) (mainsheetref18_Sleeps.f (k + 1) a0 a1 a2 a3) := by
 intro a0 a1 a2 a3 k
 unfold mainsheetref18_Sleeps.f
 repeat' first
  | (with_reducible exact mainsheetref15_At.mono _ _ _ _)
  | (with_reducible exact LeO.refl _)
  | (with_reducible exact LeO.none _)
  | (with_reducible refine LeO.ite ?_ ?_)
  | (with_reducible refine LeO.bind ?_ (fun _ => ?_))
  | exact mainsheetref15_At.mono _ _ _ _
  | exact LeO.none _
  | refine LeO.ite ?_ ?_
  | refine LeO.bind ?_ (fun _ => ?_)
set_option maxHeartbeats 8000000 in
set_option maxRecDepth 100000 in
theorem mainsheetref18_Sleeps.calls (k : Nat) (a0_0 : Int) (A0_1 : Option Addr) (c0_1 : Nat) (l0_1 : List (S88)) (A0_2 : Option Addr) (c0_2 : Nat) (l0_2 : List (S47)) (a1 : Int) (r : Int) (w : World) (hr0_1 : Kd.C k88 w A0_1 l0_1.length l0_1) (hc0_1 : l0_1.length ≤ c0_1) (hr0_2 : Kd.C k47 w A0_2 l0_2.length l0_2) (hc0_2 : l0_2.length ≤ c0_2) (h : mainsheetref18_Sleeps.f k a0_0 l0_1 l0_2 a1 = some r) :
 Calls Try.prog 20 #[.agg #[.int .i64 a0_0, .slice A0_1 l0_1.length c0_1, .slice A0_2 l0_2.length c0_2], .int .i64 a1] w fun e w' => e = .returned (.int .i64 r) ∧ Below w.heap.size w w' := by
 have hu27 := Try.underlying27
 have hu24 := Try.underlying24
 have HR0_1 := Aside0.mk hr0_1
 have HC0_1 := Aside0.mk hc0_1
 clear hr0_1 hc0_1
 have HR0_2 := Aside0.mk hr0_2
 have HC0_2 := Aside0.mk hc0_2
 clear hr0_2 hc0_2
 have HB := Aside0.mk (Below.refl w.heap.size w)
 have H : ((mainsheetref16_Vcpu.f a1).bind fun t347 => (if t347 = true then ((mainsheetref15_At.f k a0_0 l0_1 (wrap64 ((wrap64 (16 + a1)) - 1))).bind fun t348 => (some t348)) else (some 0))) = some r := h
 clear h
 replace H := Option.bind_eq_some_iff.mp H
 obtain ⟨t347, A30, H⟩ := H
 replace H : (if t347 = true then ((mainsheetref15_At.f k a0_0 l0_1 (wrap64 ((wrap64 (16 + a1)) - 1))).bind fun t348 => (some t348)) else (some 0)) = some r := H
 have A3 := Aside0.mk A30
 clear A30
 by_cases c4 : t347 = true
 · subst c4
   have H1 : ((mainsheetref15_At.f k a0_0 l0_1 (wrap64 ((wrap64 (16 + a1)) - 1))).bind fun t348 => (some t348)) = some r := by rw [if_pos rfl] at H; exact H
   clear H
   have H := H1
   clear H1
   replace H := Option.bind_eq_some_iff.mp H
   obtain ⟨t348, A50, H⟩ := H
   replace H : (some t348) = some r := H
   have A5 := Aside0.mk A50
   clear A50
   obtain rfl := Option.some.inj H
   go_enter Try.func20, Try.ntmps20
   go_wp2_with (first | ((with_reducible refine gate_dst (N := 2) rfl ?_); refine box_ 2 27 #[.int .i64 a0_0, .slice A0_1 l0_1.length c0_1, .slice A0_2 l0_2.length c0_2] ?_; intro gb346 hg w6 hbox hb; have BK346 := Aside0.mk (hbox); have GW346 := G_ hg HB; have GE346 := G_ hg HB; replace HB := Ls_ HB hb; clear hb hbox hg) | ((with_reducible refine gate_callee (f := 47) rfl ?_); refine goesL_ (some 6) rfl rfl Try.func47 (by kernel_rfl) rfl #[.int .i64 a1] rfl M_ ?_; (with_reducible refine (mainsheetref16_Vcpu.calls a1 true _ A3.out).mono ?_); rintro e w' ⟨rfl, ⟨nd, rfl⟩⟩; refine ⟨_, rfl, ?_⟩; have hcz7_0 : w6.cell? ⟨gb346, 0, none⟩ = some (.int .i64 a0_0) := (blk_cell BK346.out 0).trans rfl; have hcz7_1 : w6.cell? ⟨gb346, 1, none⟩ = some (.slice A0_1 l0_1.length c0_1) := (blk_cell BK346.out 1).trans rfl; have hcz7_2 : w6.cell? ⟨gb346, 2, none⟩ = some (.slice A0_2 l0_2.length c0_2) := (blk_cell BK346.out 2).trans rfl; have hfz7_0 := blk_frozen BK346.out 0; have hfz7_1 := blk_frozen BK346.out 1; have hfz7_2 := blk_frozen BK346.out 2) | ((with_reducible refine gate_callee (f := 44) rfl ?_); refine goesL_ (some 13) rfl rfl Try.func44 (by kernel_rfl) rfl #[.agg #[.int .i64 a0_0, .slice A0_1 l0_1.length c0_1], .int .i64 (wrap64 ((wrap64 (16 + a1)) - 1))] rfl M_ ?_; (with_reducible refine (mainsheetref15_At.calls k a0_0 _ _ l0_1 (wrap64 ((wrap64 (16 + a1)) - 1)) t348 _ ?side1 ?side2 A5.out).mono ?_); (case side1 => repeat (first | exact (Kd.C_below HR0_1.out L_) | (with_reducible refine Kd.C_alloc ?_ _) | (with_reducible refine Kd.C_drewN ?_ _) | (with_reducible refine Kd.C_drew ?_))); (case side2 => exact HC0_1.out); rintro e w8 ⟨rfl, hb⟩; refine ⟨_, rfl, ?_⟩; replace BK346 := Bb_ BK346 hb; replace HB := Ls_ HB hb; (try clear hb); (try clear hb2); (try clear hk); (try clear hi)))
   go_ret
   exact ⟨E_, L_⟩
 · replace c4 := Bool.eq_false_iff.mpr c4
   subst c4
   have H1 : (some 0) = some r := by rw [if_neg (show ¬ (false = true) by decide)] at H; exact H
   clear H
   have H := H1
   clear H1
   obtain rfl := Option.some.inj H
   go_enter Try.func20, Try.ntmps20
   go_wp2_with (first | ((with_reducible refine gate_dst (N := 2) rfl ?_); refine box_ 2 27 #[.int .i64 a0_0, .slice A0_1 l0_1.length c0_1, .slice A0_2 l0_2.length c0_2] ?_; intro gb346 hg w9 hbox hb; have BK346 := Aside0.mk (hbox); have GW346 := G_ hg HB; have GE346 := G_ hg HB; replace HB := Ls_ HB hb; clear hb hbox hg) | ((with_reducible refine gate_callee (f := 47) rfl ?_); refine goesL_ (some 6) rfl rfl Try.func47 (by kernel_rfl) rfl #[.int .i64 a1] rfl M_ ?_; (with_reducible refine (mainsheetref16_Vcpu.calls a1 false _ A3.out).mono ?_); rintro e w' ⟨rfl, ⟨nd, rfl⟩⟩; refine ⟨_, rfl, ?_⟩))
   go_ret
   exact ⟨E_, L_⟩

end Go.Proofs.Ytlddekjlmkimnaa.C
