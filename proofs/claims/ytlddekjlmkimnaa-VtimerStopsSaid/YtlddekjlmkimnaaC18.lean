import Derived.Test.YtlddekjlmkimnaaJ5
import Derived.Test.YtlddekjlmkimnaaJ6
import Derived.Test.YtlddekjlmkimnaaHat
import Derived.Test.YtlddekjlmkimnaaC17
-- Written by a program of this session (wip/tools/stub.py, over the kit's print) and by hand; not the kit's print.
namespace Go.Proofs.Ytlddekjlmkimnaa.C
open Go.RowKit Go.Proofs.YtlddekjlmkimnaaW.PrintWords Go.Proofs.YtlddekjlmkimnaaW.PrintLast Go.Proofs.YtlddekjlmkimnaaW.PrintMore
attribute [local go_sem] max2_int min2_int max_two min_two max_three min_three max_four min_four   -- for this text's walks alone
set_option linter.unusedVariables false
set_option linter.unusedSimpArgs false

/-! ### vtimer_Get: function 14 -/
def vtimer_Get.j0 : Nat → Int → Int → Bool → Int → List (S88) → List (S47) → Option (Int × Int × Int × Int × Bool)
 | 0, _, _, _, _, _, _ => none
 | k + 1, x1, x7, x24, x222000, x222001, x222002 => if x24 = true then (some (0, 0, 0, 0, false)) else ((vtimer_alarmed.f x1).bind fun t226 => ((wheel_At.f x222000 x222001 t226).bind fun bt227 => (if 0 ≤ x7 then (if x7 < (x222002.length : Int) then (some ((rd_T47 x222002 x7).f0, (rd_T47 x222002 x7).f1, (rd_T47 x222002 x7).f2, bt227.1, true)) else (none)) else (none))))
def vtimer_Get.f (k : Nat) (a0_0 : Int) (l0_1 : List (S88)) (l0_2 : List (S47)) (a1 : Int) : Option (Int × Int × Int × Int × Bool) := (vtimer_at.f l0_2 a1).bind fun bt223 => ((vtimer_Check.f k a0_0 l0_1 l0_2).bind fun t225 => (if t225 = 0 then (vtimer_Get.j0 k a1 bt223.1 (!bt223.2) a0_0 l0_1 l0_2) else (vtimer_Get.j0 k a1 bt223.1 true a0_0 l0_1 l0_2)))
theorem vtimer_Get.mono_l : ∀ k, (∀ y0 y1 y2 y3 y4 y5, LeO (vtimer_Get.j0 k y0 y1 y2 y3 y4 y5) (vtimer_Get.j0 (k + 1) y0 y1 y2 y3 y4 y5))
 | 0 => fun _ _ _ _ _ _ r h => by simp [vtimer_Get.j0] at h
 | k + 1 => by
  have ih0 := vtimer_Get.mono_l k
  · intro y0 y1 y2 y3 y4 y5
    unfold vtimer_Get.j0
    repeat' first
    | (with_reducible exact ih0 _ _ _ _ _ _)
    | (with_reducible exact vtimer_Check.mono _ _ _ _)
    | (with_reducible exact LeO.refl _)
    | (with_reducible exact LeO.none _)
    | (with_reducible refine LeO.ite ?_ ?_)
    | (with_reducible refine LeO.bind ?_ (fun _ => ?_))
    | exact ih0 _ _ _ _ _ _
    | exact vtimer_Check.mono _ _ _ _
    | exact LeO.none _
    | refine LeO.ite ?_ ?_
    | refine LeO.bind ?_ (fun _ => ?_)
theorem vtimer_Get.mono : ∀ a0 a1 a2 a3 k, LeO (vtimer_Get.f k a0 a1 a2 a3) (vtimer_Get.f (k + 1) a0 a1 a2 a3) := by
 intro a0 a1 a2 a3 k
 have ih0 := vtimer_Get.mono_l k
 unfold vtimer_Get.f
 repeat' first
  | (with_reducible exact ih0 _ _ _ _ _ _)
  | (with_reducible exact vtimer_Check.mono _ _ _ _)
  | (with_reducible exact LeO.refl _)
  | (with_reducible exact LeO.none _)
  | (with_reducible refine LeO.ite ?_ ?_)
  | (with_reducible refine LeO.bind ?_ (fun _ => ?_))
  | exact ih0 _ _ _ _ _ _
  | exact vtimer_Check.mono _ _ _ _
  | exact LeO.none _
  | refine LeO.ite ?_ ?_
  | refine LeO.bind ?_ (fun _ => ?_)
def vtimer_Get.T4 : Bool × List (List Nat × List Nat) := (true, [([], []), ([0], [0]), ([], []), ([2], [2]), ([1, 3, 3], [1, 3]), ([4], [4]), ([5], [5]), ([5], [5]), ([6, 4, 0, 1, 2, 3, 4, 5, 6], [6]), ([7, 8, 0, 1, 2, 3, 4, 5, 6, 7, 8], [7])])
def vtimer_Get.B4 : List Nat := [0, 1, 0, 4, 15, 31, 63, 63, 127, 511]
theorem vtimer_Get.tab4 : rtab .any (opsOf Try.f14 4) = vtimer_Get.T4 := by kernel_rfl
theorem vtimer_Get.bits4 : waitsOk vtimer_Get.T4.2 vtimer_Get.B4 = true := by kernel_rfl
set_option maxHeartbeats 8000000 in
set_option maxRecDepth 100000 in
theorem vtimer_Get.calls (k : Nat) (a0_0 : Int) (A0_1 : Option Addr) (c0_1 : Nat) (l0_1 : List (S88)) (A0_2 : Option Addr) (c0_2 : Nat) (l0_2 : List (S47)) (a1 : Int) (r1 : Int) (r2 : Int) (r3 : Int) (r4 : Int) (r5 : Bool) (w : World) (hr0_1 : Kd.C k88 w A0_1 l0_1.length l0_1) (hc0_1 : l0_1.length ≤ c0_1) (hr0_2 : Kd.C k47 w A0_2 l0_2.length l0_2) (hc0_2 : l0_2.length ≤ c0_2) (h : vtimer_Get.f k a0_0 l0_1 l0_2 a1 = some (r1, r2, r3, r4, r5)) :
 Calls Try.prog 14 #[.agg #[.int .i64 a0_0, .slice A0_1 l0_1.length c0_1, .slice A0_2 l0_2.length c0_2], .int .i64 a1] w fun e w' => e = .returned (.tuple #[.agg #[.int .i64 r1, .int .i64 r2, .int .i64 r3], .int .i64 r4, .bool r5]) ∧ Below w.heap.size w w' := by
 have hu27 := Try.underlying27
 have hu47 := Try.underlying47
 have hu24 := Try.underlying24
 have HR0_1 := Aside0.mk hr0_1
 have HC0_1 := Aside0.mk hc0_1
 clear hr0_1 hc0_1
 have HR0_2 := Aside0.mk hr0_2
 have HC0_2 := Aside0.mk hc0_2
 clear hr0_2 hc0_2
 have HB := Aside0.mk (Below.refl w.heap.size w)
 have H : ((vtimer_at.f l0_2 a1).bind fun bt223 => ((vtimer_Check.f k a0_0 l0_1 l0_2).bind fun t225 => (if t225 = 0 then (vtimer_Get.j0 k a1 bt223.1 (!bt223.2) a0_0 l0_1 l0_2) else (vtimer_Get.j0 k a1 bt223.1 true a0_0 l0_1 l0_2)))) = some (r1, r2, r3, r4, r5) := h
 clear h
 replace H := Option.bind_eq_some_iff.mp H
 obtain ⟨⟨t223, t224⟩, A30, H⟩ := H
 replace H : ((vtimer_Check.f k a0_0 l0_1 l0_2).bind fun t225 => (if t225 = 0 then (vtimer_Get.j0 k a1 t223 (!t224) a0_0 l0_1 l0_2) else (vtimer_Get.j0 k a1 t223 true a0_0 l0_1 l0_2))) = some (r1, r2, r3, r4, r5) := H
 have A3 := Aside0.mk A30
 clear A30
 have HC4 := Aside0.mk H
 clear H
 go_enter Try.func14, Try.ntmps14
 go_upto_region 2 with (first | ((with_reducible refine gate_dst (N := 2) rfl ?_); refine box_ 2 27 #[.int .i64 a0_0, .slice A0_1 l0_1.length c0_1, .slice A0_2 l0_2.length c0_2] ?_; intro gb221 hg w5 hbox hb; have BK221 := Aside0.mk (hbox); have GW221 := G_ hg HB; have GE221 := G_ hg HB; replace HB := Ls_ HB hb; clear hb hbox hg) | ((with_reducible refine gate_dst (N := 4) rfl ?_); refine box_ 4 47 #[.int .i64 0, .int .i64 0, .int .i64 0] ?_; intro gb222 hg w6 hbox hb; have BK222 := Aside0.mk (hbox); have GW222 := G_ hg HB; have GE222 := G_ hg HB; have NB221_222 := Nl_ hg BK221; have NB222_221 := Ng_ hg BK221; replace BK221 := Bb_ BK221 hb; replace HB := Ls_ HB hb; clear hb hbox hg; have hnb7 := NB221_222.out; have hnc7 := NB222_221.out; have hcz8_0 : w6.cell? ⟨gb221, 0, none⟩ = some (.int .i64 a0_0) := (blk_cell BK221.out 0).trans rfl; have hcz8_1 : w6.cell? ⟨gb221, 1, none⟩ = some (.slice A0_1 l0_1.length c0_1) := (blk_cell BK221.out 1).trans rfl; have hcz8_2 : w6.cell? ⟨gb221, 2, none⟩ = some (.slice A0_2 l0_2.length c0_2) := (blk_cell BK221.out 2).trans rfl; have hfz8_0 := blk_frozen BK221.out 0; have hfz8_1 := blk_frozen BK221.out 1; have hfz8_2 := blk_frozen BK221.out 2) | ((with_reducible refine gate_callee (f := 29) rfl ?_); refine goesL_ (some 15) rfl rfl Try.func29 (by kernel_rfl) rfl #[.slice A0_2 l0_2.length c0_2, .int .i64 a1] rfl M_ ?_; (with_reducible refine (vtimer_at.calls _ _ l0_2 a1 t223 t224 _ ?side1 ?side2 A3.out).mono ?_); (case side1 => exact C_ HR0_2); (case side2 => exact HC0_2.out); rintro e w9 ⟨rfl, hb⟩; refine ⟨_, rfl, ?_⟩; replace BK221 := Bb_ BK221 hb; replace BK222 := Bb_ BK222 hb; replace HB := Ls_ HB hb; (try clear hb); (try clear hb2); (try clear hk); (try clear hi)))
 (try simp only [Act.put, List.setIfInBounds_toArray, List.set_cons_zero, List.set_cons_succ])
 go_cut [24] (fun v24 wc => ∃ (kq : Nat) (x24_3 : Bool), v24 = .bool x24_3 ∧ Aside0 (vtimer_Get.j0 kq a1 t223 x24_3 a0_0 l0_1 l0_2 = some (r1, r2, r3, r4, r5)) ∧ Aside0 (kq ≤ k) ∧ Aside0 (wc.heap[gb221]? = some (.cells #[.int .i64 a0_0, (.slice A0_1 l0_1.length c0_1), (.slice A0_2 l0_2.length c0_2)] 27 (0, 0))) ∧ Aside0 (wc.heap[gb222]? = some (.cells #[.int .i64 0, .int .i64 0, .int .i64 0] 47 (0, 0))) ∧ Aside0 (Below w.heap.size w wc))
 case first =>
  have H := HC4.out
  clear HC4
  replace H := Option.bind_eq_some_iff.mp H
  obtain ⟨t225, A100, H⟩ := H
  replace H : (if t225 = 0 then (vtimer_Get.j0 k a1 t223 (!t224) a0_0 l0_1 l0_2) else (vtimer_Get.j0 k a1 t223 true a0_0 l0_1 l0_2)) = some (r1, r2, r3, r4, r5) := H
  have A10 := Aside0.mk A100
  clear A100
  by_cases c11 : t225 = 0
  · rw [if_pos c11] at H
    have c11b0 : (t225 == 0) = true := beq_iff_eq.mpr c11
    have c11b1 : (t225 != 0) = false := bne_eq_false_iff_eq.mpr c11
    clear c11
    (first | rw [c11b0] | (simp only [i64_w, i32_w]; rw [c11b0]) | skip)
    have H' := Aside0.mk H
    clear H
    have hnb12 := NB221_222.out
    have hnc12 := NB222_221.out
    have hcz13_0 : w9.cell? ⟨gb221, 0, none⟩ = some (.int .i64 a0_0) := (blk_cell BK221.out 0).trans rfl
    have hcz13_1 : w9.cell? ⟨gb221, 1, none⟩ = some (.slice A0_1 l0_1.length c0_1) := (blk_cell BK221.out 1).trans rfl
    have hcz13_2 : w9.cell? ⟨gb221, 2, none⟩ = some (.slice A0_2 l0_2.length c0_2) := (blk_cell BK221.out 2).trans rfl
    have hfz13_0 := blk_frozen BK221.out 0
    have hfz13_1 := blk_frozen BK221.out 1
    have hfz13_2 := blk_frozen BK221.out 2
    go_wp2_with (first | ((with_reducible refine gate_callee (f := 9) rfl ?_); refine goesL_ (some 19) rfl rfl Try.func9 (by kernel_rfl) rfl #[.agg #[.int .i64 a0_0, .slice A0_1 l0_1.length c0_1, .slice A0_2 l0_2.length c0_2]] rfl M_ ?_; (with_reducible refine (vtimer_Check.calls k a0_0 _ _ l0_1 _ _ l0_2 t225 _ ?side1 ?side2 ?side3 ?side4 A10.out).mono ?_); (case side1 => exact C_ HR0_1); (case side2 => exact HC0_1.out); (case side3 => exact C_ HR0_2); (case side4 => exact HC0_2.out); rintro e w14 ⟨rfl, hb⟩; refine ⟨_, rfl, ?_⟩; replace BK221 := Bb_ BK221 hb; replace BK222 := Bb_ BK222 hb; replace HB := Ls_ HB hb; (try clear hb); (try clear hb2); (try clear hk); (try clear hi)))
    go_meet
    case rel => exact ⟨_, (!t224), S_, H', ⟨by first | omega | exact Nat.le_refl _⟩, ⟨B_ BK221⟩, ⟨B_ BK222⟩, ⟨L_⟩⟩
  · rw [if_neg c11] at H
    have c11b0 : (t225 == 0) = false := beq_eq_false_iff_ne.mpr c11
    have c11b1 : (t225 != 0) = true := bne_iff_ne.mpr c11
    (first | rw [c11b0] | (simp only [i64_w, i32_w]; rw [c11b0]) | skip)
    have H' := Aside0.mk H
    clear H
    have hnb15 := NB221_222.out
    have hnc15 := NB222_221.out
    have hcz16_0 : w9.cell? ⟨gb221, 0, none⟩ = some (.int .i64 a0_0) := (blk_cell BK221.out 0).trans rfl
    have hcz16_1 : w9.cell? ⟨gb221, 1, none⟩ = some (.slice A0_1 l0_1.length c0_1) := (blk_cell BK221.out 1).trans rfl
    have hcz16_2 : w9.cell? ⟨gb221, 2, none⟩ = some (.slice A0_2 l0_2.length c0_2) := (blk_cell BK221.out 2).trans rfl
    have hfz16_0 := blk_frozen BK221.out 0
    have hfz16_1 := blk_frozen BK221.out 1
    have hfz16_2 := blk_frozen BK221.out 2
    go_wp2_with (first | ((with_reducible refine gate_callee (f := 9) rfl ?_); refine goesL_ (some 19) rfl rfl Try.func9 (by kernel_rfl) rfl #[.agg #[.int .i64 a0_0, .slice A0_1 l0_1.length c0_1, .slice A0_2 l0_2.length c0_2]] rfl M_ ?_; (with_reducible refine (vtimer_Check.calls k a0_0 _ _ l0_1 _ _ l0_2 t225 _ ?side1 ?side2 ?side3 ?side4 A10.out).mono ?_); (case side1 => exact C_ HR0_1); (case side2 => exact HC0_1.out); (case side3 => exact C_ HR0_2); (case side4 => exact HC0_2.out); rintro e w17 ⟨rfl, hb⟩; refine ⟨_, rfl, ?_⟩; replace BK221 := Bb_ BK221 hb; replace BK222 := Bb_ BK222 hb; replace HB := Ls_ HB hb; (try clear hb); (try clear hb2); (try clear hk); (try clear hi)))
    go_meet
    case rel => exact ⟨_, (true), S_, H', ⟨by first | omega | exact Nat.le_refl _⟩, ⟨B_ BK221⟩, ⟨B_ BK222⟩, ⟨L_⟩⟩
 case rest =>
  clear HC4
  try clear c1; try clear c2; try clear p2; try clear c7; try clear c9; try clear c11; try clear c11b0; try clear c11b1; try clear c12; try clear c14; try clear c15; try clear hcz13_0; try clear hcz13_1; try clear hcz13_2; try clear hcz16_0; try clear hcz16_1; try clear hcz16_2; try clear hcz8_0; try clear hcz8_1; try clear hcz8_2; try clear hfz13_0; try clear hfz13_1; try clear hfz13_2; try clear hfz16_0; try clear hfz16_1; try clear hfz16_2; try clear hfz8_0; try clear hfz8_1; try clear hfz8_2
  obtain ⟨kq, x24_3, rfl, HA, HJ3, BK221, BK222, HB⟩ := hcut
  cases kq with
  | zero => exact absurd HA.out (by simp [vtimer_Get.j0])
  | succ kj3 =>
   have H := HA.out
   clear HA
   simp only [vtimer_Get.j0] at H
   by_cases c18 : x24_3 = true
   · subst c18
     have H1 : (some (0, 0, 0, 0, false)) = some (r1, r2, r3, r4, r5) := by rw [if_pos rfl] at H; exact H
     clear H
     have H := H1
     clear H1
     simp only [Option.some.injEq, Prod.mk.injEq] at H
     obtain ⟨rfl, rfl, rfl, rfl, rfl⟩ := H
     have hnb19 := NB222_221.out
     have hnc19 := NB221_222.out
     have hcz20_0 : wc.cell? ⟨gb222, 0, none⟩ = some (.int .i64 0) := (blk_cell BK222.out 0).trans rfl
     have hcz20_1 : wc.cell? ⟨gb222, 1, none⟩ = some (.int .i64 0) := (blk_cell BK222.out 1).trans rfl
     have hcz20_2 : wc.cell? ⟨gb222, 2, none⟩ = some (.int .i64 0) := (blk_cell BK222.out 2).trans rfl
     have hfz20_0 := blk_frozen BK222.out 0
     have hfz20_1 := blk_frozen BK222.out 1
     have hfz20_2 := blk_frozen BK222.out 2
     go_wp2
     refine bodyPost_ret (results_ctt rfl _ _ gb222 47 #[.int .i64 0, .int .i64 0, .int .i64 0] (0, 0) _ rfl (by (with_reducible repeat (first | refine blk_drewN ?_ _ | refine blk_drew ?_ | refine blk_alloc ?_ _)); refine blk_put (cs := #[.int .i64 0, .int .i64 0, .int .i64 0]) ?_ 2 _ rfl; (with_reducible repeat (first | refine blk_drewN ?_ _ | refine blk_drew ?_ | refine blk_alloc ?_ _)); refine blk_put (cs := #[.int .i64 0, .int .i64 0, .int .i64 0]) ?_ 1 _ rfl; (with_reducible repeat (first | refine blk_drewN ?_ _ | refine blk_drew ?_ | refine blk_alloc ?_ _)); refine blk_put (cs := #[.int .i64 0, .int .i64 0, .int .i64 0]) ?_ 0 _ rfl; (with_reducible repeat (first | refine blk_drewN ?_ _ | refine blk_drew ?_ | refine blk_alloc ?_ _)); exact BK222.out) Try.underlying47 rfl (by kernel_rfl)) rfl ?_
     exact ⟨E_, L_⟩
   · replace c18 := Bool.eq_false_iff.mpr c18
     subst c18
     have H1 : ((vtimer_alarmed.f a1).bind fun t226 => ((wheel_At.f a0_0 l0_1 t226).bind fun bt227 => (if 0 ≤ t223 then (if t223 < (l0_2.length : Int) then (some ((rd_T47 l0_2 t223).f0, (rd_T47 l0_2 t223).f1, (rd_T47 l0_2 t223).f2, bt227.1, true)) else (none)) else (none)))) = some (r1, r2, r3, r4, r5) := by rw [if_neg (show ¬ (false = true) by decide)] at H; exact H
     clear H
     have H := H1
     clear H1
     replace H := Option.bind_eq_some_iff.mp H
     obtain ⟨t226, A210, H⟩ := H
     replace H : ((wheel_At.f a0_0 l0_1 t226).bind fun bt227 => (if 0 ≤ t223 then (if t223 < (l0_2.length : Int) then (some ((rd_T47 l0_2 t223).f0, (rd_T47 l0_2 t223).f1, (rd_T47 l0_2 t223).f2, bt227.1, true)) else (none)) else (none))) = some (r1, r2, r3, r4, r5) := H
     have A21 := Aside0.mk A210
     clear A210
     replace H := Option.bind_eq_some_iff.mp H
     obtain ⟨⟨t227, t228⟩, A220, H⟩ := H
     replace H : (if 0 ≤ t223 then (if t223 < (l0_2.length : Int) then (some ((rd_T47 l0_2 t223).f0, (rd_T47 l0_2 t223).f1, (rd_T47 l0_2 t223).f2, t227, true)) else (none)) else (none)) = some (r1, r2, r3, r4, r5) := H
     have A22 := Aside0.mk A220
     clear A220
     by_cases c23 : 0 ≤ t223
     · rw [if_pos c23] at H
       have c23b0 : decide (0 ≤ t223) = true := decide_eq_true c23
       clear c23
       by_cases c24 : t223 < (l0_2.length : Int)
       · rw [if_pos c24] at H
         have c24b0 : decide (t223 < (l0_2.length : Int)) = true := decide_eq_true c24
         clear c24
         simp only [Option.some.injEq, Prod.mk.injEq] at H
         obtain ⟨rfl, rfl, rfl, rfl, rfl⟩ := H
         try go_wp2
         have n0_ := Aside0.mk (blk_drew BK221.out)
         have n1_ := Aside0.mk (blk_drew BK222.out)
         have n2_ := Aside0.mk (below_drew1 HB.out)
         clear BK221
         clear BK222
         clear HB
         have BK221 := n0_
         have BK222 := n1_
         have HB := n2_
         clear n0_ n1_ n2_
         refine st_ 10 (fun w' => w'.cell? ⟨gb221, 0, none⟩ = some (.int .i64 a0_0) ∧ w'.cell? ⟨gb221, 1, none⟩ = some (.slice A0_1 l0_1.length c0_1) ∧ w'.cell? ⟨gb221, 2, none⟩ = some (.slice A0_2 l0_2.length c0_2)) [] ⟨(blk_cell BK221.out 0).trans rfl, (blk_cell BK221.out 1).trans rfl, (blk_cell BK221.out 2).trans rfl⟩ (fun hHeld => ?_); refine with_tabW vtimer_Get.tab4 vtimer_Get.bits4 (fun HT_ HW_ => ?_)
         generalize wc.drew = w25 at BK221 BK222 HB hHeld ⊢
         refine pu_ 0 27 HT_ ?_
         refine pu_ 2 29 HT_ ?_
         refine ta_ 1 28 HT_ HW_ rfl rfl hHeld (by rintro w' ⟨s0, s1, s2⟩; go_simp; with_reducible rfl) ?_
         refine on_ 3 30 HT_ rfl rfl (fun K hK => ?_)
         refine goes_ Try.func31 (by kernel_rfl) rfl #[.int .i64 a1] (by rfl) rfl rfl M_ ?_
         with_reducible refine (vtimer_alarmed.calls a1 t226 _ A21.out).mono ?_
         rintro e w' ⟨rfl, ⟨nd, rfl⟩⟩
         refine ⟨_, rfl, ?_⟩
         refine hK.out _ _ ⟨(blk_cell BK221.out 0).trans rfl, (blk_cell BK221.out 1).trans rfl, (blk_cell BK221.out 2).trans rfl⟩ (fun hHeld => ?_)
         clear hK K
         refine nm_ 30 ?_
         refine on_ 4 31 HT_ rfl rfl (fun K hK => ?_)
         refine goes_ Try.func30 (by kernel_rfl) rfl #[.agg #[.int .i64 a0_0, .slice A0_1 l0_1.length c0_1], .int .i64 t226] (by rfl) rfl rfl M_ ?_
         with_reducible refine (wheel_At.calls a0_0 _ _ l0_1 t226 t227 t228 _ ?side1 ?side2 A22.out).mono ?_
         (case side1 => repeat (first | exact (Kd.C_below HR0_1.out L_) | (with_reducible refine Kd.C_alloc ?_ _) | (with_reducible refine Kd.C_drewN ?_ _) | (with_reducible refine Kd.C_drew ?_)))
         (case side2 => exact HC0_1.out)
         rintro e w26 ⟨rfl, hb⟩
         refine ⟨_, rfl, ?_⟩
         have n0_ := Bb_ BK221 hb
         have n1_ := Bb_ BK222 hb
         have n2_ := Ls_ HB hb
         clear BK221
         clear BK222
         clear HB
         have BK221 := n0_
         have BK222 := n1_
         have HB := n2_
         clear n0_ n1_ n2_
         (try clear hb)
         (try clear hb2)
         (try clear hk)
         (try clear hi)
         refine hK.out _ _ ⟨(blk_cell BK221.out 0).trans rfl, (blk_cell BK221.out 1).trans rfl, (blk_cell BK221.out 2).trans rfl⟩ (fun hHeld => ?_)
         clear hK K
         refine nm_ 31 ?_
         refine pu_ 5 26 HT_ ?_
         refine pu_ 6 32 HT_ ?_
         refine pu_ 7 33 HT_ ?_
         refine pu_ 8 9 HT_ ?_
         refine pu_ 9 10 HT_ ?_
         refine done_ (done_of HT_.out (by kernel_rfl)) ?_
         have hnb27 := NB221_222.out
         have hnc27 := NB222_221.out
         have hcz28_0 : w26.cell? ⟨gb221, 0, none⟩ = some (.int .i64 a0_0) := (blk_cell BK221.out 0).trans rfl
         have hcz28_1 : w26.cell? ⟨gb221, 1, none⟩ = some (.slice A0_1 l0_1.length c0_1) := (blk_cell BK221.out 1).trans rfl
         have hcz28_2 : w26.cell? ⟨gb221, 2, none⟩ = some (.slice A0_2 l0_2.length c0_2) := (blk_cell BK221.out 2).trans rfl
         have hfz28_0 := blk_frozen BK221.out 0
         have hfz28_1 := blk_frozen BK221.out 1
         have hfz28_2 := blk_frozen BK221.out 2
         have p229 : 0 ≤ (t223 : Int) := of_decide_eq_true As_
         have q229 : t223 < (l0_2.length : Int) := of_decide_eq_true As_
         obtain ⟨ad229, e229, hx229_0, hx229_1, hx229_2⟩ := at_T47 HR0_2.out t223 p229 q229
         cases e229
         replace hx229_0 := Hx_ HB hx229_0
         replace hx229_1 := Hx_ HB hx229_1
         replace hx229_2 := Hx_ HB hx229_2
         replace p229 := eq_true p229
         replace q229 := eq_true q229
         have hcz29_0 : w26.cell? ⟨gb222, 0, none⟩ = some (.int .i64 0) := (blk_cell BK222.out 0).trans rfl
         have hcz29_1 : w26.cell? ⟨gb222, 1, none⟩ = some (.int .i64 0) := (blk_cell BK222.out 1).trans rfl
         have hcz29_2 : w26.cell? ⟨gb222, 2, none⟩ = some (.int .i64 0) := (blk_cell BK222.out 2).trans rfl
         have hfz29_0 := blk_frozen BK222.out 0
         have hfz29_1 := blk_frozen BK222.out 1
         have hfz29_2 := blk_frozen BK222.out 2
         try go_wp2
         refine bodyPost_ret (results_ctt rfl _ _ gb222 47 #[.int .i64 ((rd_T47 l0_2 t223).f0), .int .i64 ((rd_T47 l0_2 t223).f1), .int .i64 ((rd_T47 l0_2 t223).f2)] (0, 0) _ rfl (by (with_reducible repeat (first | refine blk_drewN ?_ _ | refine blk_drew ?_ | refine blk_alloc ?_ _)); refine blk_put (cs := #[.int .i64 ((rd_T47 l0_2 t223).f0), .int .i64 ((rd_T47 l0_2 t223).f1), .int .i64 0]) ?_ 2 _ rfl; (with_reducible repeat (first | refine blk_drewN ?_ _ | refine blk_drew ?_ | refine blk_alloc ?_ _)); refine blk_put (cs := #[.int .i64 ((rd_T47 l0_2 t223).f0), .int .i64 0, .int .i64 0]) ?_ 1 _ rfl; (with_reducible repeat (first | refine blk_drewN ?_ _ | refine blk_drew ?_ | refine blk_alloc ?_ _)); refine blk_put (cs := #[.int .i64 0, .int .i64 0, .int .i64 0]) ?_ 0 _ rfl; (with_reducible repeat (first | refine blk_drewN ?_ _ | refine blk_drew ?_ | refine blk_alloc ?_ _)); exact BK222.out) Try.underlying47 rfl (by kernel_rfl)) rfl ?_
         exact ⟨E_, L_⟩
       · rw [if_neg c24] at H
         exact absurd H (by simp)
     · rw [if_neg c23] at H
       exact absurd H (by simp)

end Go.Proofs.Ytlddekjlmkimnaa.C
