import Derived.Test.YtlddekjlmkimnaaJ5
import Derived.Test.YtlddekjlmkimnaaJ6
import Derived.Test.YtlddekjlmkimnaaCchk
import Derived.Test.YtlddekjlmkimnaaJ8
import Derived.Test.YtlddekjlmkimnaaHrow
import Derived.Test.YtlddekjlmkimnaaHdel
-- Written by a program of this session (wip/tools/stub.py, over the kit's print) and by hand; not the kit's print.
namespace Go.Proofs.Ytlddekjlmkimnaa.C
open Go.RowKit Go.Proofs.YtlddekjlmkimnaaW.PrintWords Go.Proofs.YtlddekjlmkimnaaW.PrintLast Go.Proofs.YtlddekjlmkimnaaW.PrintMore
attribute [local go_sem] max2_int min2_int max_two min_two max_three min_three max_four min_four   -- for this text's walks alone
set_option linter.unusedVariables false
set_option linter.unusedSimpArgs false

/-! ### wheel_Cancel: function 75 -/
def wheel_Cancel.f (k : Nat) (a0_0 : Int) (l0_1 : List (S88)) (a1 : Int) : Option (Int × (List (S88)) × Int) := (wheel_Check.f k a0_0 l0_1).bind fun t150 => (if t150 = 0 then ((wheel_find.f a0_0 l0_1 a1).bind fun bt151 => (if bt151.2 = true then ((api_Timer_61.f l0_1).bind fun t153 => ((api_Timer_85.f t153 bt151.1 (wrap64 (bt151.1 + 1))).bind fun t156 => (some (a0_0, t156, 0)))) else (some (0, ([] : List (S88)), 4)))) else (some (0, ([] : List (S88)), t150)))
theorem wheel_Cancel.mono : ∀ a0 a1 a2 k, LeO (wheel_Cancel.f k a0 a1 a2) (wheel_Cancel.f (k + 1) a0 a1 a2) := by
 intro a0 a1 a2 k
 unfold wheel_Cancel.f
 repeat' first
  | (with_reducible exact wheel_Check.mono _ _ _)
  | (with_reducible exact LeO.refl _)
  | (with_reducible exact LeO.none _)
  | (with_reducible refine LeO.ite ?_ ?_)
  | (with_reducible refine LeO.bind ?_ (fun _ => ?_))
  | exact wheel_Check.mono _ _ _
  | exact LeO.none _
  | refine LeO.ite ?_ ?_
  | refine LeO.bind ?_ (fun _ => ?_)
def wheel_Cancel.T7 : Bool × List (List Nat × List Nat) := (true, [([], []), ([0], [0]), ([], []), ([2], [2]), ([3], [3]), ([], []), ([], []), ([6], [6]), ([4, 5, 7, 4], [4, 5, 7]), ([1, 8], [1, 8]), ([9, 8, 0, 1, 2, 3, 4, 5, 6, 7, 8, 9], [9]), ([10, 0, 1, 2, 3, 4, 5, 6, 7, 8, 9, 10], [])])
def wheel_Cancel.B7 : List Nat := [0, 1, 0, 4, 12, 0, 0, 64, 252, 511, 1023, 2047]
theorem wheel_Cancel.tab7 : rtab .any (opsOf Try.f75 7) = wheel_Cancel.T7 := by kernel_rfl
theorem wheel_Cancel.bits7 : waitsOk wheel_Cancel.T7.2 wheel_Cancel.B7 = true := by kernel_rfl
set_option maxHeartbeats 8000000 in
set_option maxRecDepth 100000 in
theorem wheel_Cancel.calls (k : Nat) (a0_0 : Int) (A0_1 : Option Addr) (c0_1 : Nat) (l0_1 : List (S88)) (a1 : Int) (r1 : Int) (r2 : List (S88)) (r3 : Int) (w : World) (hr0_1 : Kd.C k88 w A0_1 l0_1.length l0_1) (hc0_1 : l0_1.length ≤ c0_1) (h : wheel_Cancel.f k a0_0 l0_1 a1 = some (r1, r2, r3)) :
 Calls Try.prog 75 #[.agg #[.int .i64 a0_0, .slice A0_1 l0_1.length c0_1], .int .i64 a1] w fun e w' => ∃ v1_ : Value, e = .returned (.tuple #[.agg #[.int .i64 r1, v1_], .int .i64 r3]) ∧ Kd.R k88 88 w' w.heap.size (fun _ => True) v1_ r2 ∧ Below w.heap.size w w' := by
 have hu24 := Try.underlying24
 have HR0_1 := Aside0.mk hr0_1
 have HC0_1 := Aside0.mk hc0_1
 clear hr0_1 hc0_1
 have HB := Aside0.mk (Below.refl w.heap.size w)
 have H : ((wheel_Check.f k a0_0 l0_1).bind fun t150 => (if t150 = 0 then ((wheel_find.f a0_0 l0_1 a1).bind fun bt151 => (if bt151.2 = true then ((api_Timer_61.f l0_1).bind fun t153 => ((api_Timer_85.f t153 bt151.1 (wrap64 (bt151.1 + 1))).bind fun t156 => (some (a0_0, t156, 0)))) else (some (0, ([] : List (S88)), 4)))) else (some (0, ([] : List (S88)), t150)))) = some (r1, r2, r3) := h
 clear h
 replace H := Option.bind_eq_some_iff.mp H
 obtain ⟨t150, A30, H⟩ := H
 replace H : (if t150 = 0 then ((wheel_find.f a0_0 l0_1 a1).bind fun bt151 => (if bt151.2 = true then ((api_Timer_61.f l0_1).bind fun t153 => ((api_Timer_85.f t153 bt151.1 (wrap64 (bt151.1 + 1))).bind fun t156 => (some (a0_0, t156, 0)))) else (some (0, ([] : List (S88)), 4)))) else (some (0, ([] : List (S88)), t150))) = some (r1, r2, r3) := H
 have A3 := Aside0.mk A30
 clear A30
 by_cases c4 : t150 = 0
 · rw [if_pos c4] at H
   have c4b0 : (t150 == 0) = true := beq_iff_eq.mpr c4
   have c4b1 : (t150 != 0) = false := bne_eq_false_iff_eq.mpr c4
   clear c4
   replace H := Option.bind_eq_some_iff.mp H
   obtain ⟨⟨t151, t152⟩, A50, H⟩ := H
   replace H : (if t152 = true then ((api_Timer_61.f l0_1).bind fun t153 => ((api_Timer_85.f t153 t151 (wrap64 (t151 + 1))).bind fun t156 => (some (a0_0, t156, 0)))) else (some (0, ([] : List (S88)), 4))) = some (r1, r2, r3) := H
   have A5 := Aside0.mk A50
   clear A50
   by_cases c6 : t152 = true
   · subst c6
     have H1 : ((api_Timer_61.f l0_1).bind fun t153 => ((api_Timer_85.f t153 t151 (wrap64 (t151 + 1))).bind fun t156 => (some (a0_0, t156, 0)))) = some (r1, r2, r3) := by rw [if_pos rfl] at H; exact H
     clear H
     have H := H1
     clear H1
     replace H := Option.bind_eq_some_iff.mp H
     obtain ⟨t153, A70, H⟩ := H
     replace H : ((api_Timer_85.f t153 t151 (wrap64 (t151 + 1))).bind fun t156 => (some (a0_0, t156, 0))) = some (r1, r2, r3) := H
     have A7 := Aside0.mk A70
     clear A70
     replace H := Option.bind_eq_some_iff.mp H
     obtain ⟨t156, A80, H⟩ := H
     replace H : (some (a0_0, t156, 0)) = some (r1, r2, r3) := H
     have A8 := Aside0.mk A80
     clear A80
     simp only [Option.some.injEq, Prod.mk.injEq] at H
     obtain ⟨rfl, rfl, rfl⟩ := H
     go_enter Try.func75, Try.ntmps75
     try go_wp2_with (first | ((with_reducible refine gate_dst (N := 2) rfl ?_); refine box_ 2 24 #[.int .i64 a0_0, .slice A0_1 l0_1.length c0_1] ?_; intro gb148 hg w9 hbox hb; have BK148 := Aside0.mk (hbox); have GW148 := G_ hg HB; have GE148 := G_ hg HB; replace HB := Ls_ HB hb; clear hb hbox hg) | ((with_reducible refine gate_dst (N := 4) rfl ?_); refine box_ 4 24 #[.int .i64 0, .slice none 0 0] ?_; intro gb149 hg w10 hbox hb; have BK149 := Aside0.mk (hbox); have GW149 := G_ hg HB; have GE149 := G_ hg HB; have NB148_149 := Nl_ hg BK148; have NB149_148 := Ng_ hg BK148; replace BK148 := Bb_ BK148 hb; replace HB := Ls_ HB hb; clear hb hbox hg; have hnb11 := NB148_149.out; have hnc11 := NB149_148.out; have hcz12_0 : w10.cell? ⟨gb148, 0, none⟩ = some (.int .i64 a0_0) := (blk_cell BK148.out 0).trans rfl; have hcz12_1 : w10.cell? ⟨gb148, 1, none⟩ = some (.slice A0_1 l0_1.length c0_1) := (blk_cell BK148.out 1).trans rfl; have hfz12_0 := blk_frozen BK148.out 0; have hfz12_1 := blk_frozen BK148.out 1) | ((with_reducible refine gate_callee (f := 28) rfl ?_); refine goesL_ (some 10) rfl rfl Try.func28 (by kernel_rfl) rfl #[.agg #[.int .i64 a0_0, .slice A0_1 l0_1.length c0_1]] rfl M_ ?_; (with_reducible refine (wheel_Check.calls k a0_0 _ _ l0_1 t150 _ ?side1 ?side2 A3.out).mono ?_); (case side1 => exact C_ HR0_1); (case side2 => exact HC0_1.out); rintro e w13 ⟨rfl, hb⟩; refine ⟨_, rfl, ?_⟩; replace BK148 := Bb_ BK148 hb; replace BK149 := Bb_ BK149 hb; replace HB := Ls_ HB hb; (try clear hb); (try clear hb2); (try clear hk); (try clear hi); have hcz14_0 : w13.cell? ⟨gb148, 0, none⟩ = some (.int .i64 a0_0) := (blk_cell BK148.out 0).trans rfl; have hcz14_1 : w13.cell? ⟨gb148, 1, none⟩ = some (.slice A0_1 l0_1.length c0_1) := (blk_cell BK148.out 1).trans rfl; have hfz14_0 := blk_frozen BK148.out 0; have hfz14_1 := blk_frozen BK148.out 1) | ((with_reducible refine gate_callee (f := 59) rfl ?_); refine goesL_ (some 18) rfl rfl Try.func59 (by kernel_rfl) rfl #[.agg #[.int .i64 a0_0, .slice A0_1 l0_1.length c0_1], .int .i64 a1] rfl M_ ?_; (with_reducible refine (wheel_find.calls a0_0 _ _ l0_1 a1 t151 true _ ?side1 ?side2 A5.out).mono ?_); (case side1 => exact C_ HR0_1); (case side2 => exact HC0_1.out); rintro e w15 ⟨rfl, hb⟩; refine ⟨_, rfl, ?_⟩; replace BK148 := Bb_ BK148 hb; replace BK149 := Bb_ BK149 hb; replace HB := Ls_ HB hb; (try clear hb); (try clear hb2); (try clear hk); (try clear hi)))
     have n0_ := Aside0.mk (blk_drew BK148.out)
     have n1_ := Aside0.mk (blk_drew BK149.out)
     have n2_ := Aside0.mk (below_drew1 HB.out)
     clear BK148
     clear BK149
     clear HB
     have BK148 := n0_
     have BK149 := n1_
     have HB := n2_
     clear n0_ n1_ n2_
     refine st_ 12 (fun w' => w'.cell? ⟨gb148, 0, none⟩ = some (.int .i64 a0_0) ∧ w'.cell? ⟨gb148, 1, none⟩ = some (.slice A0_1 l0_1.length c0_1)) [] ⟨(blk_cell BK148.out 0).trans rfl, (blk_cell BK148.out 1).trans rfl⟩ (fun hHeld => ?_); refine with_tabW wheel_Cancel.tab7 wheel_Cancel.bits7 (fun HT_ HW_ => ?_)
     generalize w15.drew = w16 at BK148 BK149 HB hHeld ⊢
     refine pu_ 0 24 HT_ ?_
     refine pu_ 2 26 HT_ ?_
     refine pu_ 5 29 HT_ ?_
     refine pu_ 6 30 HT_ ?_
     refine pu_ 7 31 HT_ ?_
     refine ta_ 1 25 HT_ HW_ rfl rfl hHeld (by rintro w' ⟨s0, s1⟩; go_simp; with_reducible rfl) ?_
     refine ta_ 3 27 HT_ HW_ rfl rfl hHeld (by rintro w' ⟨s0, s1⟩; go_simp; with_reducible rfl) ?_
     refine on_ 4 28 HT_ rfl rfl (fun K hK => ?_)
     refine goes_ Try.func61 (by kernel_rfl) rfl #[.slice A0_1 l0_1.length c0_1] (by rfl) rfl rfl M_ ?_
     with_reducible refine (api_Timer_61.calls _ _ l0_1 t153 _ ?side1 ?side2 A7.out).mono ?_
     (case side1 => exact C_ HR0_1)
     (case side2 => exact HC0_1.out)
     rintro e w17 ⟨v154, rfl, ho0, hb⟩
     refine ⟨_, rfl, ?_⟩
     have n0_ := Aside0.mk (Kd.R_lower ho0 (below_size L_))
     have n1_ := Bb_ BK148 hb
     have n2_ := Bb_ BK149 hb
     have n3_ := Ls_ HB hb
     clear BK148
     clear BK149
     clear HB
     have HO155 := n0_
     have BK148 := n1_
     have BK149 := n2_
     have HB := n3_
     clear n0_ n1_ n2_ n3_
     (try clear hb)
     (try clear hb2)
     (try clear hk)
     (try clear hi)
     (try clear ho0)
     obtain ⟨Ao18, co18, eo18⟩ := Kd.R_slice HO155.out
     (first | subst eo18 | (injection eo18 with f1_ f2_ f3_; have f4_ := f1_.symm; have f5_ := f3_.symm; clear f1_ f2_ f3_; subst f4_; subst f5_))
     refine hK.out _ _ ⟨(blk_cell BK148.out 0).trans rfl, (blk_cell BK148.out 1).trans rfl⟩ (fun hHeld => ?_)
     clear hK K
     refine nm_ 28 ?_
     refine on_ 8 32 HT_ rfl rfl (fun K hK => ?_)
     refine goes_ Try.func85 (by kernel_rfl) rfl #[.slice Ao18 t153.length co18, .int .i64 t151, .int .i64 (wrap64 (t151 + 1))] (by rfl) rfl rfl M_ ?_
     with_reducible refine (api_Timer_85.calls (fun k_ => some k_ = (.slice Ao18 t153.length co18 : Value).ownBlock) (.slice Ao18 t153.length co18) t153 t151 (wrap64 (t151 + 1)) t156 w _ ?side1 ?side2 A8.out).mono ?_
     (case side1 => repeat (first | (with_reducible first | exact HB.out | apply below_alloc | apply pw_below_drewN | apply below_drew1 | refine below_set ?_ GE148.out | refine below_set ?_ GE149.out) | exact HB.out))
     (case side2 => exact Kd.R_tight rfl HO155.out)
     rintro e w19 ⟨v157, rfl, ho0, hb, hkp⟩
     refine ⟨_, rfl, ?_⟩
     have n0_ := Aside0.mk (blk_kept (B_ BK148) hkp (fun hs_ => (fun e_ => (Kd.R_ne HO155.out BK148.out (by decide)) e_) hs_))
     have n1_ := Aside0.mk (blk_kept (B_ BK149) hkp (fun hs_ => (fun e_ => (Kd.R_ne HO155.out BK149.out (by decide)) e_) hs_))
     have n2_ := Aside0.mk (Kd.R_mono (ok' := fun k_ => True) ho0 (fun k_ hk_ => trivial))
     have n3_ := Aside0.mk (hb)
     clear BK148
     clear BK149
     clear HB
     clear HO155
     have BK148 := n0_
     have BK149 := n1_
     have HO158 := n2_
     have HB := n3_
     clear n0_ n1_ n2_ n3_
     (try clear hb)
     (try clear hkp)
     (try clear ho0)
     obtain ⟨Ao20, co20, eo20⟩ := Kd.R_slice HO158.out
     (first | subst eo20 | (injection eo20 with f1_ f2_ f3_; have f4_ := f1_.symm; have f5_ := f3_.symm; clear f1_ f2_ f3_; subst f4_; subst f5_))
     refine hK.out _ _ ⟨(blk_cell BK148.out 0).trans rfl, (blk_cell BK148.out 1).trans rfl⟩ (fun hHeld => ?_)
     clear hK K
     refine nm_ 32 ?_
     refine pu_ 9 33 HT_ ?_
     refine one_ (i := 10) (N := none) #[true, true, true, true, true, true, true, true, true, true, true, false] rfl rfl (one_of HT_.out (by kernel_rfl)) (by decide) (fun K hK => ?_)
     have hs21 : w19.cell? ⟨gb149, 0, none⟩ = some (.int .i64 0) := (blk_cell BK149.out 0).trans rfl
     have hfs21 := blk_frozen BK149.out 0
     have hns21_0 := NB148_149.out
     have hms21_0 := NB149_148.out
     have hs22 : w19.cell? ⟨gb149, 1, none⟩ = some (.slice none 0 0) := (blk_cell BK149.out 1).trans rfl
     have hfs22 := blk_frozen BK149.out 1
     have hns22_0 := NB148_149.out
     have hms22_0 := NB149_148.out
     refine skip_ (w1 := ?_) (by rfl) rfl ?_ ?_
     rotate_left
     · go_simp
       rfl
     refine hK.out _ _ ⟨((cell_far (p := ⟨gb149, _, none⟩) NB148_149.out _).trans (((cell_far (p := ⟨gb149, _, none⟩) NB148_149.out _).trans (hHeld.1)))), ((cell_far (p := ⟨gb149, _, none⟩) NB148_149.out _).trans (((cell_far (p := ⟨gb149, _, none⟩) NB148_149.out _).trans (hHeld.2))))⟩ (fun hHeld => ?_)
     clear hK K
     refine pu_ 11 5 HT_ ?_
     refine done_ (done_of HT_.out (by kernel_rfl)) ?_
     try go_wp2
     refine bodyPost_ret (results_ct rfl _ _ gb149 24 #[.int .i64 a0_0, .slice Ao20 t156.length co20] (0, 0) _ rfl (by (with_reducible repeat (first | refine blk_drewN ?_ _ | refine blk_drew ?_ | refine blk_alloc ?_ _)); refine blk_put (cs := #[.int .i64 a0_0, .slice none 0 0]) ?_ 1 _ rfl; (with_reducible repeat (first | refine blk_drewN ?_ _ | refine blk_drew ?_ | refine blk_alloc ?_ _)); refine blk_put (cs := #[.int .i64 0, .slice none 0 0]) ?_ 0 _ rfl; (with_reducible repeat (first | refine blk_drewN ?_ _ | refine blk_drew ?_ | refine blk_alloc ?_ _)); exact BK149.out) Try.underlying24 rfl (by kernel_rfl)) rfl ?_
     exact ⟨_, E_, by (with_reducible repeat (first | apply Kd.R_alloc | apply Kd.R_drewN | apply Kd.R_drew)); exact Kd.R_mono (Kd.R_far (p := ⟨gb149, 1, none⟩) (Kd.R_far (p := ⟨gb149, 0, none⟩) (Kd.R_types HO158.out BK149.out (by decide)) (fun _ hk => hk.2) (.int .i64 a0_0)) (fun _ hk => hk.2) (.slice Ao20 t156.length co20)) (fun _ hk => trivial), L_⟩
   · replace c6 := Bool.eq_false_iff.mpr c6
     subst c6
     have H1 : (some (0, ([] : List (S88)), 4)) = some (r1, r2, r3) := by rw [if_neg (show ¬ (false = true) by decide)] at H; exact H
     clear H
     have H := H1
     clear H1
     simp only [Option.some.injEq, Prod.mk.injEq] at H
     obtain ⟨rfl, rfl, rfl⟩ := H
     go_enter Try.func75, Try.ntmps75
     go_wp2_with (first | ((with_reducible refine gate_dst (N := 2) rfl ?_); refine box_ 2 24 #[.int .i64 a0_0, .slice A0_1 l0_1.length c0_1] ?_; intro gb148 hg w23 hbox hb; have BK148 := Aside0.mk (hbox); have GW148 := G_ hg HB; have GE148 := G_ hg HB; replace HB := Ls_ HB hb; clear hb hbox hg) | ((with_reducible refine gate_dst (N := 4) rfl ?_); refine box_ 4 24 #[.int .i64 0, .slice none 0 0] ?_; intro gb149 hg w24 hbox hb; have BK149 := Aside0.mk (hbox); have GW149 := G_ hg HB; have GE149 := G_ hg HB; have NB148_149 := Nl_ hg BK148; have NB149_148 := Ng_ hg BK148; replace BK148 := Bb_ BK148 hb; replace HB := Ls_ HB hb; clear hb hbox hg; have hnb25 := NB148_149.out; have hnc25 := NB149_148.out; have hcz26_0 : w24.cell? ⟨gb148, 0, none⟩ = some (.int .i64 a0_0) := (blk_cell BK148.out 0).trans rfl; have hcz26_1 : w24.cell? ⟨gb148, 1, none⟩ = some (.slice A0_1 l0_1.length c0_1) := (blk_cell BK148.out 1).trans rfl; have hfz26_0 := blk_frozen BK148.out 0; have hfz26_1 := blk_frozen BK148.out 1) | ((with_reducible refine gate_callee (f := 28) rfl ?_); refine goesL_ (some 10) rfl rfl Try.func28 (by kernel_rfl) rfl #[.agg #[.int .i64 a0_0, .slice A0_1 l0_1.length c0_1]] rfl M_ ?_; (with_reducible refine (wheel_Check.calls k a0_0 _ _ l0_1 t150 _ ?side1 ?side2 A3.out).mono ?_); (case side1 => exact C_ HR0_1); (case side2 => exact HC0_1.out); rintro e w27 ⟨rfl, hb⟩; refine ⟨_, rfl, ?_⟩; replace BK148 := Bb_ BK148 hb; replace BK149 := Bb_ BK149 hb; replace HB := Ls_ HB hb; (try clear hb); (try clear hb2); (try clear hk); (try clear hi); have hcz28_0 : w27.cell? ⟨gb148, 0, none⟩ = some (.int .i64 a0_0) := (blk_cell BK148.out 0).trans rfl; have hcz28_1 : w27.cell? ⟨gb148, 1, none⟩ = some (.slice A0_1 l0_1.length c0_1) := (blk_cell BK148.out 1).trans rfl; have hfz28_0 := blk_frozen BK148.out 0; have hfz28_1 := blk_frozen BK148.out 1) | ((with_reducible refine gate_callee (f := 59) rfl ?_); refine goesL_ (some 18) rfl rfl Try.func59 (by kernel_rfl) rfl #[.agg #[.int .i64 a0_0, .slice A0_1 l0_1.length c0_1], .int .i64 a1] rfl M_ ?_; (with_reducible refine (wheel_find.calls a0_0 _ _ l0_1 a1 t151 false _ ?side1 ?side2 A5.out).mono ?_); (case side1 => exact C_ HR0_1); (case side2 => exact HC0_1.out); rintro e w29 ⟨rfl, hb⟩; refine ⟨_, rfl, ?_⟩; replace BK148 := Bb_ BK148 hb; replace BK149 := Bb_ BK149 hb; replace HB := Ls_ HB hb; (try clear hb); (try clear hb2); (try clear hk); (try clear hi); have hcz30_0 : w29.cell? ⟨gb149, 0, none⟩ = some (.int .i64 0) := (blk_cell BK149.out 0).trans rfl; have hcz30_1 : w29.cell? ⟨gb149, 1, none⟩ = some (.slice none 0 0) := (blk_cell BK149.out 1).trans rfl; have hfz30_0 := blk_frozen BK149.out 0; have hfz30_1 := blk_frozen BK149.out 1))
     refine bodyPost_ret (results_ct rfl _ _ gb149 24 #[.int .i64 0, .slice none 0 0] (0, 0) _ rfl (by (with_reducible repeat (first | refine blk_drewN ?_ _ | refine blk_drew ?_ | refine blk_alloc ?_ _)); refine blk_put (cs := #[.int .i64 0, .slice none 0 0]) ?_ 1 _ rfl; (with_reducible repeat (first | refine blk_drewN ?_ _ | refine blk_drew ?_ | refine blk_alloc ?_ _)); refine blk_put (cs := #[.int .i64 0, .slice none 0 0]) ?_ 0 _ rfl; (with_reducible repeat (first | refine blk_drewN ?_ _ | refine blk_drew ?_ | refine blk_alloc ?_ _)); exact BK149.out) Try.underlying24 rfl (by kernel_rfl)) rfl ?_
     exact ⟨_, E_, by first | exact Kd.R_nil _ _ _ _ _ | exact Kd.N_nil _ _ _ _ _ | exact Kd.V_nil _ _ _ _ _ | exact Kd.Q_nil _ _ _ _ _ | exact Kd.S_nil _ _ _ _ _, L_⟩
 · rw [if_neg c4] at H
   have c4b0 : (t150 == 0) = false := beq_eq_false_iff_ne.mpr c4
   have c4b1 : (t150 != 0) = true := bne_iff_ne.mpr c4
   simp only [Option.some.injEq, Prod.mk.injEq] at H
   obtain ⟨rfl, rfl, rfl⟩ := H
   go_enter Try.func75, Try.ntmps75
   go_wp2_with (first | ((with_reducible refine gate_dst (N := 2) rfl ?_); refine box_ 2 24 #[.int .i64 a0_0, .slice A0_1 l0_1.length c0_1] ?_; intro gb148 hg w31 hbox hb; have BK148 := Aside0.mk (hbox); have GW148 := G_ hg HB; have GE148 := G_ hg HB; replace HB := Ls_ HB hb; clear hb hbox hg) | ((with_reducible refine gate_dst (N := 4) rfl ?_); refine box_ 4 24 #[.int .i64 0, .slice none 0 0] ?_; intro gb149 hg w32 hbox hb; have BK149 := Aside0.mk (hbox); have GW149 := G_ hg HB; have GE149 := G_ hg HB; have NB148_149 := Nl_ hg BK148; have NB149_148 := Ng_ hg BK148; replace BK148 := Bb_ BK148 hb; replace HB := Ls_ HB hb; clear hb hbox hg; have hnb33 := NB148_149.out; have hnc33 := NB149_148.out; have hcz34_0 : w32.cell? ⟨gb148, 0, none⟩ = some (.int .i64 a0_0) := (blk_cell BK148.out 0).trans rfl; have hcz34_1 : w32.cell? ⟨gb148, 1, none⟩ = some (.slice A0_1 l0_1.length c0_1) := (blk_cell BK148.out 1).trans rfl; have hfz34_0 := blk_frozen BK148.out 0; have hfz34_1 := blk_frozen BK148.out 1) | ((with_reducible refine gate_callee (f := 28) rfl ?_); refine goesL_ (some 10) rfl rfl Try.func28 (by kernel_rfl) rfl #[.agg #[.int .i64 a0_0, .slice A0_1 l0_1.length c0_1]] rfl M_ ?_; (with_reducible refine (wheel_Check.calls k a0_0 _ _ l0_1 t150 _ ?side1 ?side2 A3.out).mono ?_); (case side1 => exact C_ HR0_1); (case side2 => exact HC0_1.out); rintro e w35 ⟨rfl, hb⟩; refine ⟨_, rfl, ?_⟩; replace BK148 := Bb_ BK148 hb; replace BK149 := Bb_ BK149 hb; replace HB := Ls_ HB hb; (try clear hb); (try clear hb2); (try clear hk); (try clear hi); have hcz36_0 : w35.cell? ⟨gb149, 0, none⟩ = some (.int .i64 0) := (blk_cell BK149.out 0).trans rfl; have hcz36_1 : w35.cell? ⟨gb149, 1, none⟩ = some (.slice none 0 0) := (blk_cell BK149.out 1).trans rfl; have hfz36_0 := blk_frozen BK149.out 0; have hfz36_1 := blk_frozen BK149.out 1))
   refine bodyPost_ret (results_ct rfl _ _ gb149 24 #[.int .i64 0, .slice none 0 0] (0, 0) _ rfl (by (with_reducible repeat (first | refine blk_drewN ?_ _ | refine blk_drew ?_ | refine blk_alloc ?_ _)); refine blk_put (cs := #[.int .i64 0, .slice none 0 0]) ?_ 1 _ rfl; (with_reducible repeat (first | refine blk_drewN ?_ _ | refine blk_drew ?_ | refine blk_alloc ?_ _)); refine blk_put (cs := #[.int .i64 0, .slice none 0 0]) ?_ 0 _ rfl; (with_reducible repeat (first | refine blk_drewN ?_ _ | refine blk_drew ?_ | refine blk_alloc ?_ _)); exact BK149.out) Try.underlying24 rfl (by kernel_rfl)) rfl ?_
   exact ⟨_, E_, by first | exact Kd.R_nil _ _ _ _ _ | exact Kd.N_nil _ _ _ _ _ | exact Kd.V_nil _ _ _ _ _ | exact Kd.Q_nil _ _ _ _ _ | exact Kd.S_nil _ _ _ _ _, L_⟩

/-! ### wheel_passes: function 62 -/
def wheel_passes.f (k : Nat) (a0_0 : Int) (l0_1 : List (S88)) (a1 : Int) : Option (Int) := (wheel_Check.f k a0_0 l0_1).bind fun t160 => (if t160 = 0 then (if a1 < a0_0 then (some 2) else (if a1 > 1125899906842624 then (some 2) else (some 0))) else (some t160))
theorem wheel_passes.mono : ∀ a0 a1 a2 k, LeO (wheel_passes.f k a0 a1 a2) (wheel_passes.f (k + 1) a0 a1 a2) := by
 intro a0 a1 a2 k
 unfold wheel_passes.f
 repeat' first
  | (with_reducible exact wheel_Check.mono _ _ _)
  | (with_reducible exact LeO.refl _)
  | (with_reducible exact LeO.none _)
  | (with_reducible refine LeO.ite ?_ ?_)
  | (with_reducible refine LeO.bind ?_ (fun _ => ?_))
  | exact wheel_Check.mono _ _ _
  | exact LeO.none _
  | refine LeO.ite ?_ ?_
  | refine LeO.bind ?_ (fun _ => ?_)
set_option maxHeartbeats 8000000 in
set_option maxRecDepth 100000 in
theorem wheel_passes.calls (k : Nat) (a0_0 : Int) (A0_1 : Option Addr) (c0_1 : Nat) (l0_1 : List (S88)) (a1 : Int) (r : Int) (w : World) (hr0_1 : Kd.C k88 w A0_1 l0_1.length l0_1) (hc0_1 : l0_1.length ≤ c0_1) (h : wheel_passes.f k a0_0 l0_1 a1 = some r) :
 Calls Try.prog 62 #[.agg #[.int .i64 a0_0, .slice A0_1 l0_1.length c0_1], .int .i64 a1] w fun e w' => e = .returned (.int .i64 r) ∧ Below w.heap.size w w' := by
 have hu24 := Try.underlying24
 have HR0_1 := Aside0.mk hr0_1
 have HC0_1 := Aside0.mk hc0_1
 clear hr0_1 hc0_1
 have HB := Aside0.mk (Below.refl w.heap.size w)
 have H : ((wheel_Check.f k a0_0 l0_1).bind fun t160 => (if t160 = 0 then (if a1 < a0_0 then (some 2) else (if a1 > 1125899906842624 then (some 2) else (some 0))) else (some t160))) = some r := h
 clear h
 replace H := Option.bind_eq_some_iff.mp H
 obtain ⟨t160, A30, H⟩ := H
 replace H : (if t160 = 0 then (if a1 < a0_0 then (some 2) else (if a1 > 1125899906842624 then (some 2) else (some 0))) else (some t160)) = some r := H
 have A3 := Aside0.mk A30
 clear A30
 by_cases c4 : t160 = 0
 · rw [if_pos c4] at H
   have c4b0 : (t160 == 0) = true := beq_iff_eq.mpr c4
   have c4b1 : (t160 != 0) = false := bne_eq_false_iff_eq.mpr c4
   clear c4
   by_cases c5 : a1 < a0_0
   · rw [if_pos c5] at H
     have c5b0 : decide (a1 < a0_0) = true := decide_eq_true c5
     clear c5
     obtain rfl := Option.some.inj H
     go_enter Try.func62, Try.ntmps62
     go_wp2_with (first | ((with_reducible refine gate_dst (N := 2) rfl ?_); refine box_ 2 24 #[.int .i64 a0_0, .slice A0_1 l0_1.length c0_1] ?_; intro gb159 hg w6 hbox hb; have BK159 := Aside0.mk (hbox); have GW159 := G_ hg HB; have GE159 := G_ hg HB; replace HB := Ls_ HB hb; clear hb hbox hg; have hcz7_0 : w6.cell? ⟨gb159, 0, none⟩ = some (.int .i64 a0_0) := (blk_cell BK159.out 0).trans rfl; have hcz7_1 : w6.cell? ⟨gb159, 1, none⟩ = some (.slice A0_1 l0_1.length c0_1) := (blk_cell BK159.out 1).trans rfl; have hfz7_0 := blk_frozen BK159.out 0; have hfz7_1 := blk_frozen BK159.out 1) | ((with_reducible refine gate_callee (f := 28) rfl ?_); refine goesL_ (some 7) rfl rfl Try.func28 (by kernel_rfl) rfl #[.agg #[.int .i64 a0_0, .slice A0_1 l0_1.length c0_1]] rfl M_ ?_; (with_reducible refine (wheel_Check.calls k a0_0 _ _ l0_1 t160 _ ?side1 ?side2 A3.out).mono ?_); (case side1 => exact C_ HR0_1); (case side2 => exact HC0_1.out); rintro e w8 ⟨rfl, hb⟩; refine ⟨_, rfl, ?_⟩; replace BK159 := Bb_ BK159 hb; replace HB := Ls_ HB hb; (try clear hb); (try clear hb2); (try clear hk); (try clear hi); have hcz9_0 : w8.cell? ⟨gb159, 0, none⟩ = some (.int .i64 a0_0) := (blk_cell BK159.out 0).trans rfl; have hcz9_1 : w8.cell? ⟨gb159, 1, none⟩ = some (.slice A0_1 l0_1.length c0_1) := (blk_cell BK159.out 1).trans rfl; have hfz9_0 := blk_frozen BK159.out 0; have hfz9_1 := blk_frozen BK159.out 1))
     go_ret
     exact ⟨E_, L_⟩
   · rw [if_neg c5] at H
     have c5b0 : decide (a1 < a0_0) = false := decide_eq_false c5
     clear c5
     by_cases c10 : a1 > 1125899906842624
     · rw [if_pos c10] at H
       have c10b0 : decide (1125899906842624 < a1) = true := decide_eq_true c10
       clear c10
       obtain rfl := Option.some.inj H
       go_enter Try.func62, Try.ntmps62
       go_wp2_with (first | ((with_reducible refine gate_dst (N := 2) rfl ?_); refine box_ 2 24 #[.int .i64 a0_0, .slice A0_1 l0_1.length c0_1] ?_; intro gb159 hg w11 hbox hb; have BK159 := Aside0.mk (hbox); have GW159 := G_ hg HB; have GE159 := G_ hg HB; replace HB := Ls_ HB hb; clear hb hbox hg; have hcz12_0 : w11.cell? ⟨gb159, 0, none⟩ = some (.int .i64 a0_0) := (blk_cell BK159.out 0).trans rfl; have hcz12_1 : w11.cell? ⟨gb159, 1, none⟩ = some (.slice A0_1 l0_1.length c0_1) := (blk_cell BK159.out 1).trans rfl; have hfz12_0 := blk_frozen BK159.out 0; have hfz12_1 := blk_frozen BK159.out 1) | ((with_reducible refine gate_callee (f := 28) rfl ?_); refine goesL_ (some 7) rfl rfl Try.func28 (by kernel_rfl) rfl #[.agg #[.int .i64 a0_0, .slice A0_1 l0_1.length c0_1]] rfl M_ ?_; (with_reducible refine (wheel_Check.calls k a0_0 _ _ l0_1 t160 _ ?side1 ?side2 A3.out).mono ?_); (case side1 => exact C_ HR0_1); (case side2 => exact HC0_1.out); rintro e w13 ⟨rfl, hb⟩; refine ⟨_, rfl, ?_⟩; replace BK159 := Bb_ BK159 hb; replace HB := Ls_ HB hb; (try clear hb); (try clear hb2); (try clear hk); (try clear hi); have hcz14_0 : w13.cell? ⟨gb159, 0, none⟩ = some (.int .i64 a0_0) := (blk_cell BK159.out 0).trans rfl; have hcz14_1 : w13.cell? ⟨gb159, 1, none⟩ = some (.slice A0_1 l0_1.length c0_1) := (blk_cell BK159.out 1).trans rfl; have hfz14_0 := blk_frozen BK159.out 0; have hfz14_1 := blk_frozen BK159.out 1))
       go_ret
       exact ⟨E_, L_⟩
     · rw [if_neg c10] at H
       have c10b0 : decide (1125899906842624 < a1) = false := decide_eq_false c10
       clear c10
       obtain rfl := Option.some.inj H
       go_enter Try.func62, Try.ntmps62
       go_wp2_with (first | ((with_reducible refine gate_dst (N := 2) rfl ?_); refine box_ 2 24 #[.int .i64 a0_0, .slice A0_1 l0_1.length c0_1] ?_; intro gb159 hg w15 hbox hb; have BK159 := Aside0.mk (hbox); have GW159 := G_ hg HB; have GE159 := G_ hg HB; replace HB := Ls_ HB hb; clear hb hbox hg; have hcz16_0 : w15.cell? ⟨gb159, 0, none⟩ = some (.int .i64 a0_0) := (blk_cell BK159.out 0).trans rfl; have hcz16_1 : w15.cell? ⟨gb159, 1, none⟩ = some (.slice A0_1 l0_1.length c0_1) := (blk_cell BK159.out 1).trans rfl; have hfz16_0 := blk_frozen BK159.out 0; have hfz16_1 := blk_frozen BK159.out 1) | ((with_reducible refine gate_callee (f := 28) rfl ?_); refine goesL_ (some 7) rfl rfl Try.func28 (by kernel_rfl) rfl #[.agg #[.int .i64 a0_0, .slice A0_1 l0_1.length c0_1]] rfl M_ ?_; (with_reducible refine (wheel_Check.calls k a0_0 _ _ l0_1 t160 _ ?side1 ?side2 A3.out).mono ?_); (case side1 => exact C_ HR0_1); (case side2 => exact HC0_1.out); rintro e w17 ⟨rfl, hb⟩; refine ⟨_, rfl, ?_⟩; replace BK159 := Bb_ BK159 hb; replace HB := Ls_ HB hb; (try clear hb); (try clear hb2); (try clear hk); (try clear hi); have hcz18_0 : w17.cell? ⟨gb159, 0, none⟩ = some (.int .i64 a0_0) := (blk_cell BK159.out 0).trans rfl; have hcz18_1 : w17.cell? ⟨gb159, 1, none⟩ = some (.slice A0_1 l0_1.length c0_1) := (blk_cell BK159.out 1).trans rfl; have hfz18_0 := blk_frozen BK159.out 0; have hfz18_1 := blk_frozen BK159.out 1))
       go_ret
       exact ⟨E_, L_⟩
 · rw [if_neg c4] at H
   have c4b0 : (t160 == 0) = false := beq_eq_false_iff_ne.mpr c4
   have c4b1 : (t160 != 0) = true := bne_iff_ne.mpr c4
   obtain rfl := Option.some.inj H
   go_enter Try.func62, Try.ntmps62
   go_wp2_with (first | ((with_reducible refine gate_dst (N := 2) rfl ?_); refine box_ 2 24 #[.int .i64 a0_0, .slice A0_1 l0_1.length c0_1] ?_; intro gb159 hg w19 hbox hb; have BK159 := Aside0.mk (hbox); have GW159 := G_ hg HB; have GE159 := G_ hg HB; replace HB := Ls_ HB hb; clear hb hbox hg; have hcz20_0 : w19.cell? ⟨gb159, 0, none⟩ = some (.int .i64 a0_0) := (blk_cell BK159.out 0).trans rfl; have hcz20_1 : w19.cell? ⟨gb159, 1, none⟩ = some (.slice A0_1 l0_1.length c0_1) := (blk_cell BK159.out 1).trans rfl; have hfz20_0 := blk_frozen BK159.out 0; have hfz20_1 := blk_frozen BK159.out 1) | ((with_reducible refine gate_callee (f := 28) rfl ?_); refine goesL_ (some 7) rfl rfl Try.func28 (by kernel_rfl) rfl #[.agg #[.int .i64 a0_0, .slice A0_1 l0_1.length c0_1]] rfl M_ ?_; (with_reducible refine (wheel_Check.calls k a0_0 _ _ l0_1 t160 _ ?side1 ?side2 A3.out).mono ?_); (case side1 => exact C_ HR0_1); (case side2 => exact HC0_1.out); rintro e w21 ⟨rfl, hb⟩; refine ⟨_, rfl, ?_⟩; replace BK159 := Bb_ BK159 hb; replace HB := Ls_ HB hb; (try clear hb); (try clear hb2); (try clear hk); (try clear hi)))
   go_ret
   exact ⟨E_, L_⟩

end Go.Proofs.Ytlddekjlmkimnaa.C
