import Derived.Test.YtlddekjlmkimnaaJ5
import Derived.Test.YtlddekjlmkimnaaJ6
import Derived.Test.YtlddekjlmkimnaaJ29
import Derived.Test.YtlddekjlmkimnaaJ24
import Derived.Test.YtlddekjlmkimnaaC13
import Derived.Test.YtlddekjlmkimnaaHpass
import Derived.Test.YtlddekjlmkimnaaC18
import Derived.Test.YtlddekjlmkimnaaJ34
-- Written by a program of this session (wip/tools/stub.py, over the kit's print) and by hand; not the kit's print.
namespace Go.Proofs.Ytlddekjlmkimnaa.C
open Go.RowKit Go.Proofs.YtlddekjlmkimnaaW.PrintWords Go.Proofs.YtlddekjlmkimnaaW.PrintLast Go.Proofs.YtlddekjlmkimnaaW.PrintMore
attribute [local go_sem] max2_int min2_int max_two min_two max_three min_three max_four min_four   -- for this text's walks alone
set_option linter.unusedVariables false
set_option linter.unusedSimpArgs false

attribute [local go_sem high] eqA44 eqA47 eqA88
/-! ### mainsheetlaw18_wakes: function 7 -/
def mainsheetlaw18_wakes.f (k : Nat)  : Option (Bool) := (vtimer_Start.f 0 ([] : List (S88)) ([] : List (S47)) 2 5 1000 1500).bind fun bt239 => ((vtimer_Pass.f bt239.1 bt239.2.1 bt239.2.2.1 5000).bind fun bt248 => ((vtimer_Get.f k bt248.1 bt248.2.1 bt248.2.2.1 2).bind fun bt260 => (if bt239.2.2.2 = 0 then (if bt248.2.2.2.2 = 0 then (if bt260.2.2.2.2 = true then (if bt260.2.2.2.1 = 5500 then (if (bt248.2.2.2.1.length : Int) = 1 then (if 0 < (bt248.2.2.2.1.length : Int) then (some (((rd_T44 bt248.2.2.2.1 0).f0) == 2 && (((rd_T44 bt248.2.2.2.1 0).f1) == 5 && (((rd_T44 bt248.2.2.2.1 0).f2) == 1500 && (((rd_T44 bt248.2.2.2.1 0).f3) == 3))))) else (none)) else (some false)) else (some false)) else (some false)) else (some false)) else (some false))))
theorem mainsheetlaw18_wakes.mono : ∀ k, LeO (mainsheetlaw18_wakes.f k ) (mainsheetlaw18_wakes.f (k + 1) ) := by
 intro  k
 unfold mainsheetlaw18_wakes.f
 repeat' first
  | (with_reducible exact vtimer_Get.mono _ _ _ _ _)
  | (with_reducible exact LeO.refl _)
  | (with_reducible exact LeO.none _)
  | (with_reducible refine LeO.ite ?_ ?_)
  | (with_reducible refine LeO.bind ?_ (fun _ => ?_))
  | exact vtimer_Get.mono _ _ _ _ _
  | exact LeO.none _
  | refine LeO.ite ?_ ?_
  | refine LeO.bind ?_ (fun _ => ?_)
set_option maxHeartbeats 8000000 in
set_option maxRecDepth 100000 in
theorem mainsheetlaw18_wakes.calls (k : Nat)  (r : Bool) (w : World) (h : mainsheetlaw18_wakes.f k  = some r) :
 Calls Try.prog 7 #[] w fun e w' => e = .returned (.bool r) ∧ Below w.heap.size w w' := by
 have hu27 := Try.underlying27
 have hu47 := Try.underlying47
 have hu44 := Try.underlying44
 have HB := Aside0.mk (Below.refl w.heap.size w)
 have H : ((vtimer_Start.f 0 ([] : List (S88)) ([] : List (S47)) 2 5 1000 1500).bind fun bt239 => ((vtimer_Pass.f bt239.1 bt239.2.1 bt239.2.2.1 5000).bind fun bt248 => ((vtimer_Get.f k bt248.1 bt248.2.1 bt248.2.2.1 2).bind fun bt260 => (if bt239.2.2.2 = 0 then (if bt248.2.2.2.2 = 0 then (if bt260.2.2.2.2 = true then (if bt260.2.2.2.1 = 5500 then (if (bt248.2.2.2.1.length : Int) = 1 then (if 0 < (bt248.2.2.2.1.length : Int) then (some (((rd_T44 bt248.2.2.2.1 0).f0) == 2 && (((rd_T44 bt248.2.2.2.1 0).f1) == 5 && (((rd_T44 bt248.2.2.2.1 0).f2) == 1500 && (((rd_T44 bt248.2.2.2.1 0).f3) == 3))))) else (none)) else (some false)) else (some false)) else (some false)) else (some false)) else (some false))))) = some r := h
 clear h
 replace H := Option.bind_eq_some_iff.mp H
 obtain ⟨⟨t239, t240, t243, t246⟩, A10, H⟩ := H
 replace H : ((vtimer_Pass.f t239 t240 t243 5000).bind fun bt248 => ((vtimer_Get.f k bt248.1 bt248.2.1 bt248.2.2.1 2).bind fun bt260 => (if t246 = 0 then (if bt248.2.2.2.2 = 0 then (if bt260.2.2.2.2 = true then (if bt260.2.2.2.1 = 5500 then (if (bt248.2.2.2.1.length : Int) = 1 then (if 0 < (bt248.2.2.2.1.length : Int) then (some (((rd_T44 bt248.2.2.2.1 0).f0) == 2 && (((rd_T44 bt248.2.2.2.1 0).f1) == 5 && (((rd_T44 bt248.2.2.2.1 0).f2) == 1500 && (((rd_T44 bt248.2.2.2.1 0).f3) == 3))))) else (none)) else (some false)) else (some false)) else (some false)) else (some false)) else (some false)))) = some r := H
 have A1 := Aside0.mk A10
 clear A10
 replace H := Option.bind_eq_some_iff.mp H
 obtain ⟨⟨t248, t249, t252, t255, t258⟩, A20, H⟩ := H
 replace H : ((vtimer_Get.f k t248 t249 t252 2).bind fun bt260 => (if t246 = 0 then (if t258 = 0 then (if bt260.2.2.2.2 = true then (if bt260.2.2.2.1 = 5500 then (if (t255.length : Int) = 1 then (if 0 < (t255.length : Int) then (some (((rd_T44 t255 0).f0) == 2 && (((rd_T44 t255 0).f1) == 5 && (((rd_T44 t255 0).f2) == 1500 && (((rd_T44 t255 0).f3) == 3))))) else (none)) else (some false)) else (some false)) else (some false)) else (some false)) else (some false))) = some r := H
 have A2 := Aside0.mk A20
 clear A20
 replace H := Option.bind_eq_some_iff.mp H
 obtain ⟨⟨t260, t261, t262, t263, t264⟩, A30, H⟩ := H
 replace H : (if t246 = 0 then (if t258 = 0 then (if t264 = true then (if t263 = 5500 then (if (t255.length : Int) = 1 then (if 0 < (t255.length : Int) then (some (((rd_T44 t255 0).f0) == 2 && (((rd_T44 t255 0).f1) == 5 && (((rd_T44 t255 0).f2) == 1500 && (((rd_T44 t255 0).f3) == 3))))) else (none)) else (some false)) else (some false)) else (some false)) else (some false)) else (some false)) = some r := H
 have A3 := Aside0.mk A30
 clear A30
 by_cases c4 : t246 = 0
 · rw [if_pos c4] at H
   have c4b0 : (t246 == 0) = true := beq_iff_eq.mpr c4
   have c4b1 : (t246 != 0) = false := bne_eq_false_iff_eq.mpr c4
   clear c4
   by_cases c5 : t258 = 0
   · rw [if_pos c5] at H
     have c5b0 : (t258 == 0) = true := beq_iff_eq.mpr c5
     have c5b1 : (t258 != 0) = false := bne_eq_false_iff_eq.mpr c5
     clear c5
     by_cases c6 : t264 = true
     · subst c6
       have H1 : (if t263 = 5500 then (if (t255.length : Int) = 1 then (if 0 < (t255.length : Int) then (some (((rd_T44 t255 0).f0) == 2 && (((rd_T44 t255 0).f1) == 5 && (((rd_T44 t255 0).f2) == 1500 && (((rd_T44 t255 0).f3) == 3))))) else (none)) else (some false)) else (some false)) = some r := by rw [if_pos rfl] at H; exact H
       clear H
       have H := H1
       clear H1
       by_cases c7 : t263 = 5500
       · rw [if_pos c7] at H
         have c7b0 : (t263 == 5500) = true := beq_iff_eq.mpr c7
         have c7b1 : (t263 != 5500) = false := bne_eq_false_iff_eq.mpr c7
         clear c7
         by_cases c8 : (t255.length : Int) = 1
         · rw [if_pos c8] at H
           have c8b0 : ((t255.length : Int) == 1) = true := beq_iff_eq.mpr c8
           have c8b1 : ((t255.length : Int) != 1) = false := bne_eq_false_iff_eq.mpr c8
           clear c8
           by_cases c9 : 0 < (t255.length : Int)
           · rw [if_pos c9] at H
             have c9b0 : decide (0 < (t255.length : Int)) = true := decide_eq_true c9
             have c9b1 : decide (0 < t255.length) = true := decide_eq_true (by omega)
             clear c9
             obtain rfl := Option.some.inj H
             go_enter Try.func7, Try.ntmps7
             go_wp2_with (first | ((with_reducible refine gate_callee (f := 21) rfl ?_); refine goesL_ (some 12) rfl rfl Try.func21 (by kernel_rfl) rfl #[.agg #[.int .i64 0, .slice none 0 0, .slice none 0 0], .agg #[.int .i64 2, .int .i64 5, .int .i64 1000], .int .i64 1500] rfl M_ ?_; (refine (vtimer_Start.calls 0 _ _ ([] : List (S88)) _ _ ([] : List (S47)) 2 5 1000 1500 t239 t240 t243 t246 _ ?side1 ?side2 ?side3 ?side4 A1.out).mono ?_); (case side1 => exact Kd.C_nil _ _); (case side2 => exact Nat.le_refl _); (case side3 => exact Kd.C_nil _ _); (case side4 => exact Nat.le_refl _); rintro e w10 ⟨v241, v244, rfl, ho0, ho1, hb⟩; refine ⟨_, rfl, ?_⟩; have HO242 := Aside0.mk (Kd.R_lower ho0 (below_size L_)); have HO245 := Aside0.mk (Kd.R_lower ho1 (below_size L_)); replace HB := Ls_ HB hb; (try clear hb); (try clear hb2); (try clear hk); (try clear hi); (try clear ho0); (try clear ho1)) | ((with_reducible refine gate_dst (N := 1) rfl ?_); (try (refine gate_guard (by rfl) ?_; dsimp only)); refine box_ 1 27 #[.int .i64 0, .slice none 0 0, .slice none 0 0] ?_; intro gb247 hg w11 hbox hb; have BK247 := Aside0.mk (hbox); have GW247 := G_ hg HB; have GE247 := G_ hg HB; replace HO242 := Rb_ HO242 hb; replace HO245 := Rb_ HO245 hb; replace HB := Ls_ HB hb; clear hb hbox hg; have hcz12_0 : w11.cell? ⟨gb247, 0, none⟩ = some (.int .i64 0) := (blk_cell BK247.out 0).trans rfl; have hcz12_1 : w11.cell? ⟨gb247, 1, none⟩ = some (.slice none 0 0) := (blk_cell BK247.out 1).trans rfl; have hcz12_2 : w11.cell? ⟨gb247, 2, none⟩ = some (.slice none 0 0) := (blk_cell BK247.out 2).trans rfl; have hfz12_0 := blk_frozen BK247.out 0; have hfz12_1 := blk_frozen BK247.out 1; have hfz12_2 := blk_frozen BK247.out 2; obtain ⟨Ao13, co13, eo13⟩ := Kd.R_slice HO242.out; subst eo13; obtain ⟨Ao14, co14, eo14⟩ := Kd.R_slice HO245.out; subst eo14) | ((with_reducible refine gate_callee (f := 10) rfl ?_); refine goesL_ (some 17) rfl rfl Try.func10 (by kernel_rfl) rfl #[.agg #[.int .i64 t239, .slice Ao13 t240.length co13, .slice Ao14 t243.length co14], .int .i64 5000] rfl M_ ?_; (with_reducible refine (vtimer_Pass.calls t239 _ _ t240 _ _ t243 5000 t248 t249 t252 t255 t258 _ ?side1 ?side2 ?side3 ?side4 A2.out).mono ?_); (case side1 => exact Rr_ HO242 BK247); (case side2 => exact (Kd.R_reads' HO242.out).2.1); (case side3 => exact Rr_ HO245 BK247); (case side4 => exact (Kd.R_reads' HO245.out).2.1); rintro e w15 ⟨v250, v253, v256, rfl, ho0, ho1, ho2, hb⟩; refine ⟨_, rfl, ?_⟩; have HO251 := Aside0.mk (Kd.R_lower (Kd.R_new' ho0 (Kd.R_lt (Rf_ HO242 BK247))) (below_size L_)); have HO254 := Aside0.mk (Kd.R_lower (Kd.R_new' ho1 (Kd.R_lt (Rf_ HO245 BK247))) (below_size L_)); have HO257 := Aside0.mk (Kd.R_lower ho2 (below_size L_)); replace HO242 := Aside0.mk (Kd.R_elder' (Rf_ HO242 BK247) (Kd.R_base ho0) hb); replace HO245 := Aside0.mk (Kd.R_elder' (Rf_ HO245 BK247) (Kd.R_base ho1) hb); replace BK247 := Aside0.mk (blk_below (g := gb247) (o := .cells #[.int .i64 t239, .slice Ao13 t240.length co13, .slice Ao14 t243.length co14] 27 (0, 0)) (by (with_reducible repeat (first | refine blk_drewN ?_ _ | refine blk_drew ?_ | refine blk_alloc ?_ _)); refine blk_put (cs := #[.int .i64 t239, .slice Ao13 t240.length co13, .slice none 0 0]) ?_ 2 _ rfl; (with_reducible repeat (first | refine blk_drewN ?_ _ | refine blk_drew ?_ | refine blk_alloc ?_ _)); refine blk_put (cs := #[.int .i64 t239, .slice none 0 0, .slice none 0 0]) ?_ 1 _ rfl; (with_reducible repeat (first | refine blk_drewN ?_ _ | refine blk_drew ?_ | refine blk_alloc ?_ _)); refine blk_put (cs := #[.int .i64 0, .slice none 0 0, .slice none 0 0]) ?_ 0 _ rfl; (with_reducible repeat (first | refine blk_drewN ?_ _ | refine blk_drew ?_ | refine blk_alloc ?_ _)); exact BK247.out) hb); replace HB := Ls_ HB hb; (try clear hb); (try clear hb2); (try clear hk); (try clear hi); (try clear ho0); (try clear ho1); (try clear ho2)) | ((with_reducible refine gate_dst (N := 3) rfl ?_); (try (refine gate_guard (by rfl) ?_; dsimp only)); refine box_ 3 27 #[.int .i64 0, .slice none 0 0, .slice none 0 0] ?_; intro gb259 hg w16 hbox hb; have BK259 := Aside0.mk (hbox); have GW259 := G_ hg HB; have GE259 := G_ hg HB; have NB247_259 := Nl_ hg BK247; have NB259_247 := Ng_ hg BK247; replace HO242 := Rb_ HO242 hb; replace HO245 := Rb_ HO245 hb; replace HO251 := Rb_ HO251 hb; replace HO254 := Rb_ HO254 hb; replace HO257 := Rb_ HO257 hb; replace BK247 := Bb_ BK247 hb; replace HB := Ls_ HB hb; clear hb hbox hg; have hnb17 := NB259_247.out; have hnc17 := NB247_259.out; have hcz18_0 : w16.cell? ⟨gb259, 0, none⟩ = some (.int .i64 0) := (blk_cell BK259.out 0).trans rfl; have hcz18_1 : w16.cell? ⟨gb259, 1, none⟩ = some (.slice none 0 0) := (blk_cell BK259.out 1).trans rfl; have hcz18_2 : w16.cell? ⟨gb259, 2, none⟩ = some (.slice none 0 0) := (blk_cell BK259.out 2).trans rfl; have hfz18_0 := blk_frozen BK259.out 0; have hfz18_1 := blk_frozen BK259.out 1; have hfz18_2 := blk_frozen BK259.out 2; obtain ⟨Ao19, co19, eo19⟩ := Kd.R_slice HO251.out; subst eo19; obtain ⟨Ao20, co20, eo20⟩ := Kd.R_slice HO254.out; subst eo20) | ((with_reducible refine gate_callee (f := 14) rfl ?_); refine goesL_ (some 23) rfl rfl Try.func14 (by kernel_rfl) rfl #[.agg #[.int .i64 t248, .slice Ao19 t249.length co19, .slice Ao20 t252.length co20], .int .i64 2] rfl M_ ?_; (with_reducible refine (vtimer_Get.calls k t248 _ _ t249 _ _ t252 2 t260 t261 t262 t263 true _ ?side1 ?side2 ?side3 ?side4 A3.out).mono ?_); (case side1 => exact Rr_ HO251 BK259); (case side2 => exact (Kd.R_reads' HO251.out).2.1); (case side3 => exact Rr_ HO254 BK259); (case side4 => exact (Kd.R_reads' HO254.out).2.1); rintro e w21 ⟨rfl, hb⟩; refine ⟨_, rfl, ?_⟩; replace HO242 := Aside0.mk (Kd.R_below (Rf_ HO242 BK259) hb); replace HO245 := Aside0.mk (Kd.R_below (Rf_ HO245 BK259) hb); replace HO251 := Aside0.mk (Kd.R_below (Rf_ HO251 BK259) hb); replace HO254 := Aside0.mk (Kd.R_below (Rf_ HO254 BK259) hb); replace HO257 := Aside0.mk (Kd.R_below (Rf_ HO257 BK259) hb); replace BK247 := Aside0.mk (blk_below (Bz_ BK247) hb); replace BK259 := Aside0.mk (blk_below (g := gb259) (o := .cells #[.int .i64 t248, .slice Ao19 t249.length co19, .slice Ao20 t252.length co20] 27 (0, 0)) (by (with_reducible repeat (first | refine blk_drewN ?_ _ | refine blk_drew ?_ | refine blk_alloc ?_ _)); refine blk_put (cs := #[.int .i64 t248, .slice Ao19 t249.length co19, .slice none 0 0]) ?_ 2 _ rfl; (with_reducible repeat (first | refine blk_drewN ?_ _ | refine blk_drew ?_ | refine blk_alloc ?_ _)); refine blk_put (cs := #[.int .i64 t248, .slice none 0 0, .slice none 0 0]) ?_ 1 _ rfl; (with_reducible repeat (first | refine blk_drewN ?_ _ | refine blk_drew ?_ | refine blk_alloc ?_ _)); refine blk_put (cs := #[.int .i64 0, .slice none 0 0, .slice none 0 0]) ?_ 0 _ rfl; (with_reducible repeat (first | refine blk_drewN ?_ _ | refine blk_drew ?_ | refine blk_alloc ?_ _)); exact BK259.out) hb); replace HB := Ls_ HB hb; (try clear hb); (try clear hb2); (try clear hk); (try clear hi)) | ((with_reducible refine gate_dst (N := 6) rfl ?_); (try (refine gate_guard (by rfl) ?_; dsimp only)); refine box_ 6 47 #[.int .i64 0, .int .i64 0, .int .i64 0] ?_; intro gb265 hg w22 hbox hb; have BK265 := Aside0.mk (hbox); have GW265 := G_ hg HB; have GE265 := G_ hg HB; have NB247_265 := Nl_ hg BK247; have NB265_247 := Ng_ hg BK247; have NB259_265 := Nl_ hg BK259; have NB265_259 := Ng_ hg BK259; replace HO242 := Rb_ HO242 hb; replace HO245 := Aside0.mk (Kd.R_below (Kd.R_elderB (R_ HO245) gb265 (Nat.le_of_eq hg.symm)) hb); replace HO251 := Rb_ HO251 hb; replace HO254 := Aside0.mk (Kd.R_below (Kd.R_elderB (R_ HO254) gb265 (Nat.le_of_eq hg.symm)) hb); replace HO257 := Rb_ HO257 hb; replace BK247 := Bb_ BK247 hb; replace BK259 := Bb_ BK259 hb; replace HB := Ls_ HB hb; clear hb hbox hg; have hnb23 := NB265_247.out; have hnc23 := NB247_265.out; have hnb24 := NB265_259.out; have hnc24 := NB259_265.out; have hcz25_0 : w22.cell? ⟨gb265, 0, none⟩ = some (.int .i64 0) := (blk_cell BK265.out 0).trans rfl; have hcz25_1 : w22.cell? ⟨gb265, 1, none⟩ = some (.int .i64 0) := (blk_cell BK265.out 1).trans rfl; have hcz25_2 : w22.cell? ⟨gb265, 2, none⟩ = some (.int .i64 0) := (blk_cell BK265.out 2).trans rfl; have hfz25_0 := blk_frozen BK265.out 0; have hfz25_1 := blk_frozen BK265.out 1; have hfz25_2 := blk_frozen BK265.out 2; obtain ⟨Ao26, co26, eo26⟩ := Kd.R_slice HO257.out; subst eo26; have p266 : 0 ≤ (0 : Int) := (by omega); have q266 : 0 < (t255.length : Int) := of_decide_eq_true As_; obtain ⟨ad266, e266, hx266_0, hx266_1, hx266_2, hx266_3⟩ := at_T44 (Kd.R_reads' HO257.out).2.2 0 p266 q266; cases e266; have qi266 : (0 < t255.length) = True := eq_true (by omega); (try rw [show ((0 : Int)).toNat = 0 from rfl] at hx266_0); (try rw [show 0 * 4 = 0 from rfl] at hx266_0); (try rw [Addr.add_zero'] at hx266_0); (try rw [show ((0 : Int)).toNat = 0 from rfl] at hx266_1); (try rw [show 0 * 4 = 0 from rfl] at hx266_1); (try rw [Addr.add_zero'] at hx266_1); (try rw [show ((0 : Int)).toNat = 0 from rfl] at hx266_2); (try rw [show 0 * 4 = 0 from rfl] at hx266_2); (try rw [Addr.add_zero'] at hx266_2); (try rw [show ((0 : Int)).toNat = 0 from rfl] at hx266_3); (try rw [show 0 * 4 = 0 from rfl] at hx266_3); (try rw [Addr.add_zero'] at hx266_3); have hn266_0 : ad266.block ≠ gb265 := Kd.own_blk (Kd.R_ne HO257.out BK265.out (by decide)); have hn266_1 : ad266.block ≠ gb265 := Kd.own_blk (Kd.R_ne HO257.out BK265.out (by decide)); have hn266_2 : ad266.block ≠ gb265 := Kd.own_blk (Kd.R_ne HO257.out BK265.out (by decide)); replace hx266_0 := (cell_far (p := ⟨gb265, 0, none⟩) (by first | (rw [add_block]; exact hn266_0) | (show (Addr.add _ _).block ≠ _; rw [add_block]; exact hn266_0) | exact hn266_0) (.int .i64 t260)).trans hx266_0; replace hx266_1 := (cell_far (p := ⟨gb265, 0, none⟩) (by first | (rw [add_block]; exact hn266_0) | (show (Addr.add _ _).block ≠ _; rw [add_block]; exact hn266_0) | exact hn266_0) (.int .i64 t260)).trans hx266_1; replace hx266_2 := (cell_far (p := ⟨gb265, 0, none⟩) (by first | (rw [add_block]; exact hn266_0) | (show (Addr.add _ _).block ≠ _; rw [add_block]; exact hn266_0) | exact hn266_0) (.int .i64 t260)).trans hx266_2; replace hx266_3 := (cell_far (p := ⟨gb265, 0, none⟩) (by first | (rw [add_block]; exact hn266_0) | (show (Addr.add _ _).block ≠ _; rw [add_block]; exact hn266_0) | exact hn266_0) (.int .i64 t260)).trans hx266_3; replace hx266_0 := (cell_far (p := ⟨gb265, 1, none⟩) (by first | (rw [add_block]; exact hn266_1) | (show (Addr.add _ _).block ≠ _; rw [add_block]; exact hn266_1) | exact hn266_1) (.int .i64 t261)).trans hx266_0; replace hx266_1 := (cell_far (p := ⟨gb265, 1, none⟩) (by first | (rw [add_block]; exact hn266_1) | (show (Addr.add _ _).block ≠ _; rw [add_block]; exact hn266_1) | exact hn266_1) (.int .i64 t261)).trans hx266_1; replace hx266_2 := (cell_far (p := ⟨gb265, 1, none⟩) (by first | (rw [add_block]; exact hn266_1) | (show (Addr.add _ _).block ≠ _; rw [add_block]; exact hn266_1) | exact hn266_1) (.int .i64 t261)).trans hx266_2; replace hx266_3 := (cell_far (p := ⟨gb265, 1, none⟩) (by first | (rw [add_block]; exact hn266_1) | (show (Addr.add _ _).block ≠ _; rw [add_block]; exact hn266_1) | exact hn266_1) (.int .i64 t261)).trans hx266_3; replace hx266_0 := (cell_far (p := ⟨gb265, 2, none⟩) (by first | (rw [add_block]; exact hn266_2) | (show (Addr.add _ _).block ≠ _; rw [add_block]; exact hn266_2) | exact hn266_2) (.int .i64 t262)).trans hx266_0; replace hx266_1 := (cell_far (p := ⟨gb265, 2, none⟩) (by first | (rw [add_block]; exact hn266_2) | (show (Addr.add _ _).block ≠ _; rw [add_block]; exact hn266_2) | exact hn266_2) (.int .i64 t262)).trans hx266_1; replace hx266_2 := (cell_far (p := ⟨gb265, 2, none⟩) (by first | (rw [add_block]; exact hn266_2) | (show (Addr.add _ _).block ≠ _; rw [add_block]; exact hn266_2) | exact hn266_2) (.int .i64 t262)).trans hx266_2; replace hx266_3 := (cell_far (p := ⟨gb265, 2, none⟩) (by first | (rw [add_block]; exact hn266_2) | (show (Addr.add _ _).block ≠ _; rw [add_block]; exact hn266_2) | exact hn266_2) (.int .i64 t262)).trans hx266_3; clear hn266_0; clear hn266_1; clear hn266_2; replace p266 := eq_true p266; replace q266 := eq_true q266))
             go_ret
             exact ⟨E_, L_⟩
           · rw [if_neg c9] at H
             exact absurd H (by simp)
         · rw [if_neg c8] at H
           have c8b0 : ((t255.length : Int) == 1) = false := beq_eq_false_iff_ne.mpr c8
           have c8b1 : ((t255.length : Int) != 1) = true := bne_iff_ne.mpr c8
           obtain rfl := Option.some.inj H
           go_enter Try.func7, Try.ntmps7
           go_wp2_with (first | ((with_reducible refine gate_callee (f := 21) rfl ?_); refine goesL_ (some 12) rfl rfl Try.func21 (by kernel_rfl) rfl #[.agg #[.int .i64 0, .slice none 0 0, .slice none 0 0], .agg #[.int .i64 2, .int .i64 5, .int .i64 1000], .int .i64 1500] rfl M_ ?_; (refine (vtimer_Start.calls 0 _ _ ([] : List (S88)) _ _ ([] : List (S47)) 2 5 1000 1500 t239 t240 t243 t246 _ ?side1 ?side2 ?side3 ?side4 A1.out).mono ?_); (case side1 => exact Kd.C_nil _ _); (case side2 => exact Nat.le_refl _); (case side3 => exact Kd.C_nil _ _); (case side4 => exact Nat.le_refl _); rintro e w27 ⟨v241, v244, rfl, ho0, ho1, hb⟩; refine ⟨_, rfl, ?_⟩; have HO242 := Aside0.mk (Kd.R_lower ho0 (below_size L_)); have HO245 := Aside0.mk (Kd.R_lower ho1 (below_size L_)); replace HB := Ls_ HB hb; (try clear hb); (try clear hb2); (try clear hk); (try clear hi); (try clear ho0); (try clear ho1)) | ((with_reducible refine gate_dst (N := 1) rfl ?_); (try (refine gate_guard (by rfl) ?_; dsimp only)); refine box_ 1 27 #[.int .i64 0, .slice none 0 0, .slice none 0 0] ?_; intro gb247 hg w28 hbox hb; have BK247 := Aside0.mk (hbox); have GW247 := G_ hg HB; have GE247 := G_ hg HB; replace HO242 := Rb_ HO242 hb; replace HO245 := Rb_ HO245 hb; replace HB := Ls_ HB hb; clear hb hbox hg; have hcz29_0 : w28.cell? ⟨gb247, 0, none⟩ = some (.int .i64 0) := (blk_cell BK247.out 0).trans rfl; have hcz29_1 : w28.cell? ⟨gb247, 1, none⟩ = some (.slice none 0 0) := (blk_cell BK247.out 1).trans rfl; have hcz29_2 : w28.cell? ⟨gb247, 2, none⟩ = some (.slice none 0 0) := (blk_cell BK247.out 2).trans rfl; have hfz29_0 := blk_frozen BK247.out 0; have hfz29_1 := blk_frozen BK247.out 1; have hfz29_2 := blk_frozen BK247.out 2; obtain ⟨Ao30, co30, eo30⟩ := Kd.R_slice HO242.out; subst eo30; obtain ⟨Ao31, co31, eo31⟩ := Kd.R_slice HO245.out; subst eo31) | ((with_reducible refine gate_callee (f := 10) rfl ?_); refine goesL_ (some 17) rfl rfl Try.func10 (by kernel_rfl) rfl #[.agg #[.int .i64 t239, .slice Ao30 t240.length co30, .slice Ao31 t243.length co31], .int .i64 5000] rfl M_ ?_; (with_reducible refine (vtimer_Pass.calls t239 _ _ t240 _ _ t243 5000 t248 t249 t252 t255 t258 _ ?side1 ?side2 ?side3 ?side4 A2.out).mono ?_); (case side1 => exact Rr_ HO242 BK247); (case side2 => exact (Kd.R_reads' HO242.out).2.1); (case side3 => exact Rr_ HO245 BK247); (case side4 => exact (Kd.R_reads' HO245.out).2.1); rintro e w32 ⟨v250, v253, v256, rfl, ho0, ho1, ho2, hb⟩; refine ⟨_, rfl, ?_⟩; have HO251 := Aside0.mk (Kd.R_lower (Kd.R_new' ho0 (Kd.R_lt (Rf_ HO242 BK247))) (below_size L_)); have HO254 := Aside0.mk (Kd.R_lower (Kd.R_new' ho1 (Kd.R_lt (Rf_ HO245 BK247))) (below_size L_)); have HO257 := Aside0.mk (Kd.R_lower ho2 (below_size L_)); replace HO242 := Aside0.mk (Kd.R_elder' (Rf_ HO242 BK247) (Kd.R_base ho0) hb); replace HO245 := Aside0.mk (Kd.R_elder' (Rf_ HO245 BK247) (Kd.R_base ho1) hb); replace BK247 := Aside0.mk (blk_below (g := gb247) (o := .cells #[.int .i64 t239, .slice Ao30 t240.length co30, .slice Ao31 t243.length co31] 27 (0, 0)) (by (with_reducible repeat (first | refine blk_drewN ?_ _ | refine blk_drew ?_ | refine blk_alloc ?_ _)); refine blk_put (cs := #[.int .i64 t239, .slice Ao30 t240.length co30, .slice none 0 0]) ?_ 2 _ rfl; (with_reducible repeat (first | refine blk_drewN ?_ _ | refine blk_drew ?_ | refine blk_alloc ?_ _)); refine blk_put (cs := #[.int .i64 t239, .slice none 0 0, .slice none 0 0]) ?_ 1 _ rfl; (with_reducible repeat (first | refine blk_drewN ?_ _ | refine blk_drew ?_ | refine blk_alloc ?_ _)); refine blk_put (cs := #[.int .i64 0, .slice none 0 0, .slice none 0 0]) ?_ 0 _ rfl; (with_reducible repeat (first | refine blk_drewN ?_ _ | refine blk_drew ?_ | refine blk_alloc ?_ _)); exact BK247.out) hb); replace HB := Ls_ HB hb; (try clear hb); (try clear hb2); (try clear hk); (try clear hi); (try clear ho0); (try clear ho1); (try clear ho2)) | ((with_reducible refine gate_dst (N := 3) rfl ?_); (try (refine gate_guard (by rfl) ?_; dsimp only)); refine box_ 3 27 #[.int .i64 0, .slice none 0 0, .slice none 0 0] ?_; intro gb259 hg w33 hbox hb; have BK259 := Aside0.mk (hbox); have GW259 := G_ hg HB; have GE259 := G_ hg HB; have NB247_259 := Nl_ hg BK247; have NB259_247 := Ng_ hg BK247; replace HO242 := Rb_ HO242 hb; replace HO245 := Rb_ HO245 hb; replace HO251 := Rb_ HO251 hb; replace HO254 := Rb_ HO254 hb; replace HO257 := Rb_ HO257 hb; replace BK247 := Bb_ BK247 hb; replace HB := Ls_ HB hb; clear hb hbox hg; have hnb34 := NB259_247.out; have hnc34 := NB247_259.out; have hcz35_0 : w33.cell? ⟨gb259, 0, none⟩ = some (.int .i64 0) := (blk_cell BK259.out 0).trans rfl; have hcz35_1 : w33.cell? ⟨gb259, 1, none⟩ = some (.slice none 0 0) := (blk_cell BK259.out 1).trans rfl; have hcz35_2 : w33.cell? ⟨gb259, 2, none⟩ = some (.slice none 0 0) := (blk_cell BK259.out 2).trans rfl; have hfz35_0 := blk_frozen BK259.out 0; have hfz35_1 := blk_frozen BK259.out 1; have hfz35_2 := blk_frozen BK259.out 2; obtain ⟨Ao36, co36, eo36⟩ := Kd.R_slice HO251.out; subst eo36; obtain ⟨Ao37, co37, eo37⟩ := Kd.R_slice HO254.out; subst eo37) | ((with_reducible refine gate_callee (f := 14) rfl ?_); refine goesL_ (some 23) rfl rfl Try.func14 (by kernel_rfl) rfl #[.agg #[.int .i64 t248, .slice Ao36 t249.length co36, .slice Ao37 t252.length co37], .int .i64 2] rfl M_ ?_; (with_reducible refine (vtimer_Get.calls k t248 _ _ t249 _ _ t252 2 t260 t261 t262 t263 true _ ?side1 ?side2 ?side3 ?side4 A3.out).mono ?_); (case side1 => exact Rr_ HO251 BK259); (case side2 => exact (Kd.R_reads' HO251.out).2.1); (case side3 => exact Rr_ HO254 BK259); (case side4 => exact (Kd.R_reads' HO254.out).2.1); rintro e w38 ⟨rfl, hb⟩; refine ⟨_, rfl, ?_⟩; replace HO242 := Aside0.mk (Kd.R_below (Rf_ HO242 BK259) hb); replace HO245 := Aside0.mk (Kd.R_below (Rf_ HO245 BK259) hb); replace HO251 := Aside0.mk (Kd.R_below (Rf_ HO251 BK259) hb); replace HO254 := Aside0.mk (Kd.R_below (Rf_ HO254 BK259) hb); replace HO257 := Aside0.mk (Kd.R_below (Rf_ HO257 BK259) hb); replace BK247 := Aside0.mk (blk_below (Bz_ BK247) hb); replace BK259 := Aside0.mk (blk_below (g := gb259) (o := .cells #[.int .i64 t248, .slice Ao36 t249.length co36, .slice Ao37 t252.length co37] 27 (0, 0)) (by (with_reducible repeat (first | refine blk_drewN ?_ _ | refine blk_drew ?_ | refine blk_alloc ?_ _)); refine blk_put (cs := #[.int .i64 t248, .slice Ao36 t249.length co36, .slice none 0 0]) ?_ 2 _ rfl; (with_reducible repeat (first | refine blk_drewN ?_ _ | refine blk_drew ?_ | refine blk_alloc ?_ _)); refine blk_put (cs := #[.int .i64 t248, .slice none 0 0, .slice none 0 0]) ?_ 1 _ rfl; (with_reducible repeat (first | refine blk_drewN ?_ _ | refine blk_drew ?_ | refine blk_alloc ?_ _)); refine blk_put (cs := #[.int .i64 0, .slice none 0 0, .slice none 0 0]) ?_ 0 _ rfl; (with_reducible repeat (first | refine blk_drewN ?_ _ | refine blk_drew ?_ | refine blk_alloc ?_ _)); exact BK259.out) hb); replace HB := Ls_ HB hb; (try clear hb); (try clear hb2); (try clear hk); (try clear hi)) | ((with_reducible refine gate_dst (N := 6) rfl ?_); (try (refine gate_guard (by rfl) ?_; dsimp only)); refine box_ 6 47 #[.int .i64 0, .int .i64 0, .int .i64 0] ?_; intro gb265 hg w39 hbox hb; have BK265 := Aside0.mk (hbox); have GW265 := G_ hg HB; have GE265 := G_ hg HB; have NB247_265 := Nl_ hg BK247; have NB265_247 := Ng_ hg BK247; have NB259_265 := Nl_ hg BK259; have NB265_259 := Ng_ hg BK259; replace HO242 := Rb_ HO242 hb; replace HO245 := Aside0.mk (Kd.R_below (Kd.R_elderB (R_ HO245) gb265 (Nat.le_of_eq hg.symm)) hb); replace HO251 := Rb_ HO251 hb; replace HO254 := Aside0.mk (Kd.R_below (Kd.R_elderB (R_ HO254) gb265 (Nat.le_of_eq hg.symm)) hb); replace HO257 := Rb_ HO257 hb; replace BK247 := Bb_ BK247 hb; replace BK259 := Bb_ BK259 hb; replace HB := Ls_ HB hb; clear hb hbox hg; have hnb40 := NB265_247.out; have hnc40 := NB247_265.out; have hnb41 := NB265_259.out; have hnc41 := NB259_265.out; have hcz42_0 : w39.cell? ⟨gb265, 0, none⟩ = some (.int .i64 0) := (blk_cell BK265.out 0).trans rfl; have hcz42_1 : w39.cell? ⟨gb265, 1, none⟩ = some (.int .i64 0) := (blk_cell BK265.out 1).trans rfl; have hcz42_2 : w39.cell? ⟨gb265, 2, none⟩ = some (.int .i64 0) := (blk_cell BK265.out 2).trans rfl; have hfz42_0 := blk_frozen BK265.out 0; have hfz42_1 := blk_frozen BK265.out 1; have hfz42_2 := blk_frozen BK265.out 2; obtain ⟨Ao43, co43, eo43⟩ := Kd.R_slice HO257.out; subst eo43))
           go_ret
           exact ⟨E_, L_⟩
       · rw [if_neg c7] at H
         have c7b0 : (t263 == 5500) = false := beq_eq_false_iff_ne.mpr c7
         have c7b1 : (t263 != 5500) = true := bne_iff_ne.mpr c7
         obtain rfl := Option.some.inj H
         go_enter Try.func7, Try.ntmps7
         go_wp2_with (first | ((with_reducible refine gate_callee (f := 21) rfl ?_); refine goesL_ (some 12) rfl rfl Try.func21 (by kernel_rfl) rfl #[.agg #[.int .i64 0, .slice none 0 0, .slice none 0 0], .agg #[.int .i64 2, .int .i64 5, .int .i64 1000], .int .i64 1500] rfl M_ ?_; (refine (vtimer_Start.calls 0 _ _ ([] : List (S88)) _ _ ([] : List (S47)) 2 5 1000 1500 t239 t240 t243 t246 _ ?side1 ?side2 ?side3 ?side4 A1.out).mono ?_); (case side1 => exact Kd.C_nil _ _); (case side2 => exact Nat.le_refl _); (case side3 => exact Kd.C_nil _ _); (case side4 => exact Nat.le_refl _); rintro e w44 ⟨v241, v244, rfl, ho0, ho1, hb⟩; refine ⟨_, rfl, ?_⟩; have HO242 := Aside0.mk (Kd.R_lower ho0 (below_size L_)); have HO245 := Aside0.mk (Kd.R_lower ho1 (below_size L_)); replace HB := Ls_ HB hb; (try clear hb); (try clear hb2); (try clear hk); (try clear hi); (try clear ho0); (try clear ho1)) | ((with_reducible refine gate_dst (N := 1) rfl ?_); (try (refine gate_guard (by rfl) ?_; dsimp only)); refine box_ 1 27 #[.int .i64 0, .slice none 0 0, .slice none 0 0] ?_; intro gb247 hg w45 hbox hb; have BK247 := Aside0.mk (hbox); have GW247 := G_ hg HB; have GE247 := G_ hg HB; replace HO242 := Rb_ HO242 hb; replace HO245 := Rb_ HO245 hb; replace HB := Ls_ HB hb; clear hb hbox hg; have hcz46_0 : w45.cell? ⟨gb247, 0, none⟩ = some (.int .i64 0) := (blk_cell BK247.out 0).trans rfl; have hcz46_1 : w45.cell? ⟨gb247, 1, none⟩ = some (.slice none 0 0) := (blk_cell BK247.out 1).trans rfl; have hcz46_2 : w45.cell? ⟨gb247, 2, none⟩ = some (.slice none 0 0) := (blk_cell BK247.out 2).trans rfl; have hfz46_0 := blk_frozen BK247.out 0; have hfz46_1 := blk_frozen BK247.out 1; have hfz46_2 := blk_frozen BK247.out 2; obtain ⟨Ao47, co47, eo47⟩ := Kd.R_slice HO242.out; subst eo47; obtain ⟨Ao48, co48, eo48⟩ := Kd.R_slice HO245.out; subst eo48) | ((with_reducible refine gate_callee (f := 10) rfl ?_); refine goesL_ (some 17) rfl rfl Try.func10 (by kernel_rfl) rfl #[.agg #[.int .i64 t239, .slice Ao47 t240.length co47, .slice Ao48 t243.length co48], .int .i64 5000] rfl M_ ?_; (with_reducible refine (vtimer_Pass.calls t239 _ _ t240 _ _ t243 5000 t248 t249 t252 t255 t258 _ ?side1 ?side2 ?side3 ?side4 A2.out).mono ?_); (case side1 => exact Rr_ HO242 BK247); (case side2 => exact (Kd.R_reads' HO242.out).2.1); (case side3 => exact Rr_ HO245 BK247); (case side4 => exact (Kd.R_reads' HO245.out).2.1); rintro e w49 ⟨v250, v253, v256, rfl, ho0, ho1, ho2, hb⟩; refine ⟨_, rfl, ?_⟩; have HO251 := Aside0.mk (Kd.R_lower (Kd.R_new' ho0 (Kd.R_lt (Rf_ HO242 BK247))) (below_size L_)); have HO254 := Aside0.mk (Kd.R_lower (Kd.R_new' ho1 (Kd.R_lt (Rf_ HO245 BK247))) (below_size L_)); have HO257 := Aside0.mk (Kd.R_lower ho2 (below_size L_)); replace HO242 := Aside0.mk (Kd.R_elder' (Rf_ HO242 BK247) (Kd.R_base ho0) hb); replace HO245 := Aside0.mk (Kd.R_elder' (Rf_ HO245 BK247) (Kd.R_base ho1) hb); replace BK247 := Aside0.mk (blk_below (g := gb247) (o := .cells #[.int .i64 t239, .slice Ao47 t240.length co47, .slice Ao48 t243.length co48] 27 (0, 0)) (by (with_reducible repeat (first | refine blk_drewN ?_ _ | refine blk_drew ?_ | refine blk_alloc ?_ _)); refine blk_put (cs := #[.int .i64 t239, .slice Ao47 t240.length co47, .slice none 0 0]) ?_ 2 _ rfl; (with_reducible repeat (first | refine blk_drewN ?_ _ | refine blk_drew ?_ | refine blk_alloc ?_ _)); refine blk_put (cs := #[.int .i64 t239, .slice none 0 0, .slice none 0 0]) ?_ 1 _ rfl; (with_reducible repeat (first | refine blk_drewN ?_ _ | refine blk_drew ?_ | refine blk_alloc ?_ _)); refine blk_put (cs := #[.int .i64 0, .slice none 0 0, .slice none 0 0]) ?_ 0 _ rfl; (with_reducible repeat (first | refine blk_drewN ?_ _ | refine blk_drew ?_ | refine blk_alloc ?_ _)); exact BK247.out) hb); replace HB := Ls_ HB hb; (try clear hb); (try clear hb2); (try clear hk); (try clear hi); (try clear ho0); (try clear ho1); (try clear ho2)) | ((with_reducible refine gate_dst (N := 3) rfl ?_); (try (refine gate_guard (by rfl) ?_; dsimp only)); refine box_ 3 27 #[.int .i64 0, .slice none 0 0, .slice none 0 0] ?_; intro gb259 hg w50 hbox hb; have BK259 := Aside0.mk (hbox); have GW259 := G_ hg HB; have GE259 := G_ hg HB; have NB247_259 := Nl_ hg BK247; have NB259_247 := Ng_ hg BK247; replace HO242 := Rb_ HO242 hb; replace HO245 := Rb_ HO245 hb; replace HO251 := Rb_ HO251 hb; replace HO254 := Rb_ HO254 hb; replace HO257 := Rb_ HO257 hb; replace BK247 := Bb_ BK247 hb; replace HB := Ls_ HB hb; clear hb hbox hg; have hnb51 := NB259_247.out; have hnc51 := NB247_259.out; have hcz52_0 : w50.cell? ⟨gb259, 0, none⟩ = some (.int .i64 0) := (blk_cell BK259.out 0).trans rfl; have hcz52_1 : w50.cell? ⟨gb259, 1, none⟩ = some (.slice none 0 0) := (blk_cell BK259.out 1).trans rfl; have hcz52_2 : w50.cell? ⟨gb259, 2, none⟩ = some (.slice none 0 0) := (blk_cell BK259.out 2).trans rfl; have hfz52_0 := blk_frozen BK259.out 0; have hfz52_1 := blk_frozen BK259.out 1; have hfz52_2 := blk_frozen BK259.out 2; obtain ⟨Ao53, co53, eo53⟩ := Kd.R_slice HO251.out; subst eo53; obtain ⟨Ao54, co54, eo54⟩ := Kd.R_slice HO254.out; subst eo54) | ((with_reducible refine gate_callee (f := 14) rfl ?_); refine goesL_ (some 23) rfl rfl Try.func14 (by kernel_rfl) rfl #[.agg #[.int .i64 t248, .slice Ao53 t249.length co53, .slice Ao54 t252.length co54], .int .i64 2] rfl M_ ?_; (with_reducible refine (vtimer_Get.calls k t248 _ _ t249 _ _ t252 2 t260 t261 t262 t263 true _ ?side1 ?side2 ?side3 ?side4 A3.out).mono ?_); (case side1 => exact Rr_ HO251 BK259); (case side2 => exact (Kd.R_reads' HO251.out).2.1); (case side3 => exact Rr_ HO254 BK259); (case side4 => exact (Kd.R_reads' HO254.out).2.1); rintro e w55 ⟨rfl, hb⟩; refine ⟨_, rfl, ?_⟩; replace HO242 := Aside0.mk (Kd.R_below (Rf_ HO242 BK259) hb); replace HO245 := Aside0.mk (Kd.R_below (Rf_ HO245 BK259) hb); replace HO251 := Aside0.mk (Kd.R_below (Rf_ HO251 BK259) hb); replace HO254 := Aside0.mk (Kd.R_below (Rf_ HO254 BK259) hb); replace HO257 := Aside0.mk (Kd.R_below (Rf_ HO257 BK259) hb); replace BK247 := Aside0.mk (blk_below (Bz_ BK247) hb); replace BK259 := Aside0.mk (blk_below (g := gb259) (o := .cells #[.int .i64 t248, .slice Ao53 t249.length co53, .slice Ao54 t252.length co54] 27 (0, 0)) (by (with_reducible repeat (first | refine blk_drewN ?_ _ | refine blk_drew ?_ | refine blk_alloc ?_ _)); refine blk_put (cs := #[.int .i64 t248, .slice Ao53 t249.length co53, .slice none 0 0]) ?_ 2 _ rfl; (with_reducible repeat (first | refine blk_drewN ?_ _ | refine blk_drew ?_ | refine blk_alloc ?_ _)); refine blk_put (cs := #[.int .i64 t248, .slice none 0 0, .slice none 0 0]) ?_ 1 _ rfl; (with_reducible repeat (first | refine blk_drewN ?_ _ | refine blk_drew ?_ | refine blk_alloc ?_ _)); refine blk_put (cs := #[.int .i64 0, .slice none 0 0, .slice none 0 0]) ?_ 0 _ rfl; (with_reducible repeat (first | refine blk_drewN ?_ _ | refine blk_drew ?_ | refine blk_alloc ?_ _)); exact BK259.out) hb); replace HB := Ls_ HB hb; (try clear hb); (try clear hb2); (try clear hk); (try clear hi)) | ((with_reducible refine gate_dst (N := 6) rfl ?_); (try (refine gate_guard (by rfl) ?_; dsimp only)); refine box_ 6 47 #[.int .i64 0, .int .i64 0, .int .i64 0] ?_; intro gb265 hg w56 hbox hb; have BK265 := Aside0.mk (hbox); have GW265 := G_ hg HB; have GE265 := G_ hg HB; have NB247_265 := Nl_ hg BK247; have NB265_247 := Ng_ hg BK247; have NB259_265 := Nl_ hg BK259; have NB265_259 := Ng_ hg BK259; replace HO242 := Rb_ HO242 hb; replace HO245 := Aside0.mk (Kd.R_below (Kd.R_elderB (R_ HO245) gb265 (Nat.le_of_eq hg.symm)) hb); replace HO251 := Rb_ HO251 hb; replace HO254 := Aside0.mk (Kd.R_below (Kd.R_elderB (R_ HO254) gb265 (Nat.le_of_eq hg.symm)) hb); replace HO257 := Rb_ HO257 hb; replace BK247 := Bb_ BK247 hb; replace BK259 := Bb_ BK259 hb; replace HB := Ls_ HB hb; clear hb hbox hg; have hnb57 := NB265_247.out; have hnc57 := NB247_265.out; have hnb58 := NB265_259.out; have hnc58 := NB259_265.out; have hcz59_0 : w56.cell? ⟨gb265, 0, none⟩ = some (.int .i64 0) := (blk_cell BK265.out 0).trans rfl; have hcz59_1 : w56.cell? ⟨gb265, 1, none⟩ = some (.int .i64 0) := (blk_cell BK265.out 1).trans rfl; have hcz59_2 : w56.cell? ⟨gb265, 2, none⟩ = some (.int .i64 0) := (blk_cell BK265.out 2).trans rfl; have hfz59_0 := blk_frozen BK265.out 0; have hfz59_1 := blk_frozen BK265.out 1; have hfz59_2 := blk_frozen BK265.out 2))
         go_ret
         exact ⟨E_, L_⟩
     · replace c6 := Bool.eq_false_iff.mpr c6
       subst c6
       have H1 : (some false) = some r := by rw [if_neg (show ¬ (false = true) by decide)] at H; exact H
       clear H
       have H := H1
       clear H1
       obtain rfl := Option.some.inj H
       go_enter Try.func7, Try.ntmps7
       go_wp2_with (first | ((with_reducible refine gate_callee (f := 21) rfl ?_); refine goesL_ (some 12) rfl rfl Try.func21 (by kernel_rfl) rfl #[.agg #[.int .i64 0, .slice none 0 0, .slice none 0 0], .agg #[.int .i64 2, .int .i64 5, .int .i64 1000], .int .i64 1500] rfl M_ ?_; (refine (vtimer_Start.calls 0 _ _ ([] : List (S88)) _ _ ([] : List (S47)) 2 5 1000 1500 t239 t240 t243 t246 _ ?side1 ?side2 ?side3 ?side4 A1.out).mono ?_); (case side1 => exact Kd.C_nil _ _); (case side2 => exact Nat.le_refl _); (case side3 => exact Kd.C_nil _ _); (case side4 => exact Nat.le_refl _); rintro e w60 ⟨v241, v244, rfl, ho0, ho1, hb⟩; refine ⟨_, rfl, ?_⟩; have HO242 := Aside0.mk (Kd.R_lower ho0 (below_size L_)); have HO245 := Aside0.mk (Kd.R_lower ho1 (below_size L_)); replace HB := Ls_ HB hb; (try clear hb); (try clear hb2); (try clear hk); (try clear hi); (try clear ho0); (try clear ho1)) | ((with_reducible refine gate_dst (N := 1) rfl ?_); (try (refine gate_guard (by rfl) ?_; dsimp only)); refine box_ 1 27 #[.int .i64 0, .slice none 0 0, .slice none 0 0] ?_; intro gb247 hg w61 hbox hb; have BK247 := Aside0.mk (hbox); have GW247 := G_ hg HB; have GE247 := G_ hg HB; replace HO242 := Rb_ HO242 hb; replace HO245 := Rb_ HO245 hb; replace HB := Ls_ HB hb; clear hb hbox hg; have hcz62_0 : w61.cell? ⟨gb247, 0, none⟩ = some (.int .i64 0) := (blk_cell BK247.out 0).trans rfl; have hcz62_1 : w61.cell? ⟨gb247, 1, none⟩ = some (.slice none 0 0) := (blk_cell BK247.out 1).trans rfl; have hcz62_2 : w61.cell? ⟨gb247, 2, none⟩ = some (.slice none 0 0) := (blk_cell BK247.out 2).trans rfl; have hfz62_0 := blk_frozen BK247.out 0; have hfz62_1 := blk_frozen BK247.out 1; have hfz62_2 := blk_frozen BK247.out 2; obtain ⟨Ao63, co63, eo63⟩ := Kd.R_slice HO242.out; subst eo63; obtain ⟨Ao64, co64, eo64⟩ := Kd.R_slice HO245.out; subst eo64) | ((with_reducible refine gate_callee (f := 10) rfl ?_); refine goesL_ (some 17) rfl rfl Try.func10 (by kernel_rfl) rfl #[.agg #[.int .i64 t239, .slice Ao63 t240.length co63, .slice Ao64 t243.length co64], .int .i64 5000] rfl M_ ?_; (with_reducible refine (vtimer_Pass.calls t239 _ _ t240 _ _ t243 5000 t248 t249 t252 t255 t258 _ ?side1 ?side2 ?side3 ?side4 A2.out).mono ?_); (case side1 => exact Rr_ HO242 BK247); (case side2 => exact (Kd.R_reads' HO242.out).2.1); (case side3 => exact Rr_ HO245 BK247); (case side4 => exact (Kd.R_reads' HO245.out).2.1); rintro e w65 ⟨v250, v253, v256, rfl, ho0, ho1, ho2, hb⟩; refine ⟨_, rfl, ?_⟩; have HO251 := Aside0.mk (Kd.R_lower (Kd.R_new' ho0 (Kd.R_lt (Rf_ HO242 BK247))) (below_size L_)); have HO254 := Aside0.mk (Kd.R_lower (Kd.R_new' ho1 (Kd.R_lt (Rf_ HO245 BK247))) (below_size L_)); have HO257 := Aside0.mk (Kd.R_lower ho2 (below_size L_)); replace HO242 := Aside0.mk (Kd.R_elder' (Rf_ HO242 BK247) (Kd.R_base ho0) hb); replace HO245 := Aside0.mk (Kd.R_elder' (Rf_ HO245 BK247) (Kd.R_base ho1) hb); replace BK247 := Aside0.mk (blk_below (g := gb247) (o := .cells #[.int .i64 t239, .slice Ao63 t240.length co63, .slice Ao64 t243.length co64] 27 (0, 0)) (by (with_reducible repeat (first | refine blk_drewN ?_ _ | refine blk_drew ?_ | refine blk_alloc ?_ _)); refine blk_put (cs := #[.int .i64 t239, .slice Ao63 t240.length co63, .slice none 0 0]) ?_ 2 _ rfl; (with_reducible repeat (first | refine blk_drewN ?_ _ | refine blk_drew ?_ | refine blk_alloc ?_ _)); refine blk_put (cs := #[.int .i64 t239, .slice none 0 0, .slice none 0 0]) ?_ 1 _ rfl; (with_reducible repeat (first | refine blk_drewN ?_ _ | refine blk_drew ?_ | refine blk_alloc ?_ _)); refine blk_put (cs := #[.int .i64 0, .slice none 0 0, .slice none 0 0]) ?_ 0 _ rfl; (with_reducible repeat (first | refine blk_drewN ?_ _ | refine blk_drew ?_ | refine blk_alloc ?_ _)); exact BK247.out) hb); replace HB := Ls_ HB hb; (try clear hb); (try clear hb2); (try clear hk); (try clear hi); (try clear ho0); (try clear ho1); (try clear ho2)) | ((with_reducible refine gate_dst (N := 3) rfl ?_); (try (refine gate_guard (by rfl) ?_; dsimp only)); refine box_ 3 27 #[.int .i64 0, .slice none 0 0, .slice none 0 0] ?_; intro gb259 hg w66 hbox hb; have BK259 := Aside0.mk (hbox); have GW259 := G_ hg HB; have GE259 := G_ hg HB; have NB247_259 := Nl_ hg BK247; have NB259_247 := Ng_ hg BK247; replace HO242 := Rb_ HO242 hb; replace HO245 := Rb_ HO245 hb; replace HO251 := Rb_ HO251 hb; replace HO254 := Rb_ HO254 hb; replace HO257 := Rb_ HO257 hb; replace BK247 := Bb_ BK247 hb; replace HB := Ls_ HB hb; clear hb hbox hg; have hnb67 := NB259_247.out; have hnc67 := NB247_259.out; have hcz68_0 : w66.cell? ⟨gb259, 0, none⟩ = some (.int .i64 0) := (blk_cell BK259.out 0).trans rfl; have hcz68_1 : w66.cell? ⟨gb259, 1, none⟩ = some (.slice none 0 0) := (blk_cell BK259.out 1).trans rfl; have hcz68_2 : w66.cell? ⟨gb259, 2, none⟩ = some (.slice none 0 0) := (blk_cell BK259.out 2).trans rfl; have hfz68_0 := blk_frozen BK259.out 0; have hfz68_1 := blk_frozen BK259.out 1; have hfz68_2 := blk_frozen BK259.out 2; obtain ⟨Ao69, co69, eo69⟩ := Kd.R_slice HO251.out; subst eo69; obtain ⟨Ao70, co70, eo70⟩ := Kd.R_slice HO254.out; subst eo70) | ((with_reducible refine gate_callee (f := 14) rfl ?_); refine goesL_ (some 23) rfl rfl Try.func14 (by kernel_rfl) rfl #[.agg #[.int .i64 t248, .slice Ao69 t249.length co69, .slice Ao70 t252.length co70], .int .i64 2] rfl M_ ?_; (with_reducible refine (vtimer_Get.calls k t248 _ _ t249 _ _ t252 2 t260 t261 t262 t263 false _ ?side1 ?side2 ?side3 ?side4 A3.out).mono ?_); (case side1 => exact Rr_ HO251 BK259); (case side2 => exact (Kd.R_reads' HO251.out).2.1); (case side3 => exact Rr_ HO254 BK259); (case side4 => exact (Kd.R_reads' HO254.out).2.1); rintro e w71 ⟨rfl, hb⟩; refine ⟨_, rfl, ?_⟩; replace HO242 := Aside0.mk (Kd.R_below (Rf_ HO242 BK259) hb); replace HO245 := Aside0.mk (Kd.R_below (Rf_ HO245 BK259) hb); replace HO251 := Aside0.mk (Kd.R_below (Rf_ HO251 BK259) hb); replace HO254 := Aside0.mk (Kd.R_below (Rf_ HO254 BK259) hb); replace HO257 := Aside0.mk (Kd.R_below (Rf_ HO257 BK259) hb); replace BK247 := Aside0.mk (blk_below (Bz_ BK247) hb); replace BK259 := Aside0.mk (blk_below (g := gb259) (o := .cells #[.int .i64 t248, .slice Ao69 t249.length co69, .slice Ao70 t252.length co70] 27 (0, 0)) (by (with_reducible repeat (first | refine blk_drewN ?_ _ | refine blk_drew ?_ | refine blk_alloc ?_ _)); refine blk_put (cs := #[.int .i64 t248, .slice Ao69 t249.length co69, .slice none 0 0]) ?_ 2 _ rfl; (with_reducible repeat (first | refine blk_drewN ?_ _ | refine blk_drew ?_ | refine blk_alloc ?_ _)); refine blk_put (cs := #[.int .i64 t248, .slice none 0 0, .slice none 0 0]) ?_ 1 _ rfl; (with_reducible repeat (first | refine blk_drewN ?_ _ | refine blk_drew ?_ | refine blk_alloc ?_ _)); refine blk_put (cs := #[.int .i64 0, .slice none 0 0, .slice none 0 0]) ?_ 0 _ rfl; (with_reducible repeat (first | refine blk_drewN ?_ _ | refine blk_drew ?_ | refine blk_alloc ?_ _)); exact BK259.out) hb); replace HB := Ls_ HB hb; (try clear hb); (try clear hb2); (try clear hk); (try clear hi)) | ((with_reducible refine gate_dst (N := 6) rfl ?_); (try (refine gate_guard (by rfl) ?_; dsimp only)); refine box_ 6 47 #[.int .i64 0, .int .i64 0, .int .i64 0] ?_; intro gb265 hg w72 hbox hb; have BK265 := Aside0.mk (hbox); have GW265 := G_ hg HB; have GE265 := G_ hg HB; have NB247_265 := Nl_ hg BK247; have NB265_247 := Ng_ hg BK247; have NB259_265 := Nl_ hg BK259; have NB265_259 := Ng_ hg BK259; replace HO242 := Rb_ HO242 hb; replace HO245 := Aside0.mk (Kd.R_below (Kd.R_elderB (R_ HO245) gb265 (Nat.le_of_eq hg.symm)) hb); replace HO251 := Rb_ HO251 hb; replace HO254 := Aside0.mk (Kd.R_below (Kd.R_elderB (R_ HO254) gb265 (Nat.le_of_eq hg.symm)) hb); replace HO257 := Rb_ HO257 hb; replace BK247 := Bb_ BK247 hb; replace BK259 := Bb_ BK259 hb; replace HB := Ls_ HB hb; clear hb hbox hg; have hnb73 := NB265_247.out; have hnc73 := NB247_265.out; have hnb74 := NB265_259.out; have hnc74 := NB259_265.out; have hcz75_0 : w72.cell? ⟨gb265, 0, none⟩ = some (.int .i64 0) := (blk_cell BK265.out 0).trans rfl; have hcz75_1 : w72.cell? ⟨gb265, 1, none⟩ = some (.int .i64 0) := (blk_cell BK265.out 1).trans rfl; have hcz75_2 : w72.cell? ⟨gb265, 2, none⟩ = some (.int .i64 0) := (blk_cell BK265.out 2).trans rfl; have hfz75_0 := blk_frozen BK265.out 0; have hfz75_1 := blk_frozen BK265.out 1; have hfz75_2 := blk_frozen BK265.out 2))
       go_ret
       exact ⟨E_, L_⟩
   · rw [if_neg c5] at H
     have c5b0 : (t258 == 0) = false := beq_eq_false_iff_ne.mpr c5
     have c5b1 : (t258 != 0) = true := bne_iff_ne.mpr c5
     obtain rfl := Option.some.inj H
     go_enter Try.func7, Try.ntmps7
     go_wp2_with (first | ((with_reducible refine gate_callee (f := 21) rfl ?_); refine goesL_ (some 12) rfl rfl Try.func21 (by kernel_rfl) rfl #[.agg #[.int .i64 0, .slice none 0 0, .slice none 0 0], .agg #[.int .i64 2, .int .i64 5, .int .i64 1000], .int .i64 1500] rfl M_ ?_; (refine (vtimer_Start.calls 0 _ _ ([] : List (S88)) _ _ ([] : List (S47)) 2 5 1000 1500 t239 t240 t243 t246 _ ?side1 ?side2 ?side3 ?side4 A1.out).mono ?_); (case side1 => exact Kd.C_nil _ _); (case side2 => exact Nat.le_refl _); (case side3 => exact Kd.C_nil _ _); (case side4 => exact Nat.le_refl _); rintro e w76 ⟨v241, v244, rfl, ho0, ho1, hb⟩; refine ⟨_, rfl, ?_⟩; have HO242 := Aside0.mk (Kd.R_lower ho0 (below_size L_)); have HO245 := Aside0.mk (Kd.R_lower ho1 (below_size L_)); replace HB := Ls_ HB hb; (try clear hb); (try clear hb2); (try clear hk); (try clear hi); (try clear ho0); (try clear ho1)) | ((with_reducible refine gate_dst (N := 1) rfl ?_); (try (refine gate_guard (by rfl) ?_; dsimp only)); refine box_ 1 27 #[.int .i64 0, .slice none 0 0, .slice none 0 0] ?_; intro gb247 hg w77 hbox hb; have BK247 := Aside0.mk (hbox); have GW247 := G_ hg HB; have GE247 := G_ hg HB; replace HO242 := Rb_ HO242 hb; replace HO245 := Rb_ HO245 hb; replace HB := Ls_ HB hb; clear hb hbox hg; have hcz78_0 : w77.cell? ⟨gb247, 0, none⟩ = some (.int .i64 0) := (blk_cell BK247.out 0).trans rfl; have hcz78_1 : w77.cell? ⟨gb247, 1, none⟩ = some (.slice none 0 0) := (blk_cell BK247.out 1).trans rfl; have hcz78_2 : w77.cell? ⟨gb247, 2, none⟩ = some (.slice none 0 0) := (blk_cell BK247.out 2).trans rfl; have hfz78_0 := blk_frozen BK247.out 0; have hfz78_1 := blk_frozen BK247.out 1; have hfz78_2 := blk_frozen BK247.out 2; obtain ⟨Ao79, co79, eo79⟩ := Kd.R_slice HO242.out; subst eo79; obtain ⟨Ao80, co80, eo80⟩ := Kd.R_slice HO245.out; subst eo80) | ((with_reducible refine gate_callee (f := 10) rfl ?_); refine goesL_ (some 17) rfl rfl Try.func10 (by kernel_rfl) rfl #[.agg #[.int .i64 t239, .slice Ao79 t240.length co79, .slice Ao80 t243.length co80], .int .i64 5000] rfl M_ ?_; (with_reducible refine (vtimer_Pass.calls t239 _ _ t240 _ _ t243 5000 t248 t249 t252 t255 t258 _ ?side1 ?side2 ?side3 ?side4 A2.out).mono ?_); (case side1 => exact Rr_ HO242 BK247); (case side2 => exact (Kd.R_reads' HO242.out).2.1); (case side3 => exact Rr_ HO245 BK247); (case side4 => exact (Kd.R_reads' HO245.out).2.1); rintro e w81 ⟨v250, v253, v256, rfl, ho0, ho1, ho2, hb⟩; refine ⟨_, rfl, ?_⟩; have HO251 := Aside0.mk (Kd.R_lower (Kd.R_new' ho0 (Kd.R_lt (Rf_ HO242 BK247))) (below_size L_)); have HO254 := Aside0.mk (Kd.R_lower (Kd.R_new' ho1 (Kd.R_lt (Rf_ HO245 BK247))) (below_size L_)); have HO257 := Aside0.mk (Kd.R_lower ho2 (below_size L_)); replace HO242 := Aside0.mk (Kd.R_elder' (Rf_ HO242 BK247) (Kd.R_base ho0) hb); replace HO245 := Aside0.mk (Kd.R_elder' (Rf_ HO245 BK247) (Kd.R_base ho1) hb); replace BK247 := Aside0.mk (blk_below (g := gb247) (o := .cells #[.int .i64 t239, .slice Ao79 t240.length co79, .slice Ao80 t243.length co80] 27 (0, 0)) (by (with_reducible repeat (first | refine blk_drewN ?_ _ | refine blk_drew ?_ | refine blk_alloc ?_ _)); refine blk_put (cs := #[.int .i64 t239, .slice Ao79 t240.length co79, .slice none 0 0]) ?_ 2 _ rfl; (with_reducible repeat (first | refine blk_drewN ?_ _ | refine blk_drew ?_ | refine blk_alloc ?_ _)); refine blk_put (cs := #[.int .i64 t239, .slice none 0 0, .slice none 0 0]) ?_ 1 _ rfl; (with_reducible repeat (first | refine blk_drewN ?_ _ | refine blk_drew ?_ | refine blk_alloc ?_ _)); refine blk_put (cs := #[.int .i64 0, .slice none 0 0, .slice none 0 0]) ?_ 0 _ rfl; (with_reducible repeat (first | refine blk_drewN ?_ _ | refine blk_drew ?_ | refine blk_alloc ?_ _)); exact BK247.out) hb); replace HB := Ls_ HB hb; (try clear hb); (try clear hb2); (try clear hk); (try clear hi); (try clear ho0); (try clear ho1); (try clear ho2)) | ((with_reducible refine gate_dst (N := 3) rfl ?_); (try (refine gate_guard (by rfl) ?_; dsimp only)); refine box_ 3 27 #[.int .i64 0, .slice none 0 0, .slice none 0 0] ?_; intro gb259 hg w82 hbox hb; have BK259 := Aside0.mk (hbox); have GW259 := G_ hg HB; have GE259 := G_ hg HB; have NB247_259 := Nl_ hg BK247; have NB259_247 := Ng_ hg BK247; replace HO242 := Rb_ HO242 hb; replace HO245 := Rb_ HO245 hb; replace HO251 := Rb_ HO251 hb; replace HO254 := Rb_ HO254 hb; replace HO257 := Rb_ HO257 hb; replace BK247 := Bb_ BK247 hb; replace HB := Ls_ HB hb; clear hb hbox hg; have hnb83 := NB259_247.out; have hnc83 := NB247_259.out; have hcz84_0 : w82.cell? ⟨gb259, 0, none⟩ = some (.int .i64 0) := (blk_cell BK259.out 0).trans rfl; have hcz84_1 : w82.cell? ⟨gb259, 1, none⟩ = some (.slice none 0 0) := (blk_cell BK259.out 1).trans rfl; have hcz84_2 : w82.cell? ⟨gb259, 2, none⟩ = some (.slice none 0 0) := (blk_cell BK259.out 2).trans rfl; have hfz84_0 := blk_frozen BK259.out 0; have hfz84_1 := blk_frozen BK259.out 1; have hfz84_2 := blk_frozen BK259.out 2; obtain ⟨Ao85, co85, eo85⟩ := Kd.R_slice HO251.out; subst eo85; obtain ⟨Ao86, co86, eo86⟩ := Kd.R_slice HO254.out; subst eo86) | ((with_reducible refine gate_callee (f := 14) rfl ?_); refine goesL_ (some 23) rfl rfl Try.func14 (by kernel_rfl) rfl #[.agg #[.int .i64 t248, .slice Ao85 t249.length co85, .slice Ao86 t252.length co86], .int .i64 2] rfl M_ ?_; (with_reducible refine (vtimer_Get.calls k t248 _ _ t249 _ _ t252 2 t260 t261 t262 t263 t264 _ ?side1 ?side2 ?side3 ?side4 A3.out).mono ?_); (case side1 => exact Rr_ HO251 BK259); (case side2 => exact (Kd.R_reads' HO251.out).2.1); (case side3 => exact Rr_ HO254 BK259); (case side4 => exact (Kd.R_reads' HO254.out).2.1); rintro e w87 ⟨rfl, hb⟩; refine ⟨_, rfl, ?_⟩; replace HO242 := Aside0.mk (Kd.R_below (Rf_ HO242 BK259) hb); replace HO245 := Aside0.mk (Kd.R_below (Rf_ HO245 BK259) hb); replace HO251 := Aside0.mk (Kd.R_below (Rf_ HO251 BK259) hb); replace HO254 := Aside0.mk (Kd.R_below (Rf_ HO254 BK259) hb); replace HO257 := Aside0.mk (Kd.R_below (Rf_ HO257 BK259) hb); replace BK247 := Aside0.mk (blk_below (Bz_ BK247) hb); replace BK259 := Aside0.mk (blk_below (g := gb259) (o := .cells #[.int .i64 t248, .slice Ao85 t249.length co85, .slice Ao86 t252.length co86] 27 (0, 0)) (by (with_reducible repeat (first | refine blk_drewN ?_ _ | refine blk_drew ?_ | refine blk_alloc ?_ _)); refine blk_put (cs := #[.int .i64 t248, .slice Ao85 t249.length co85, .slice none 0 0]) ?_ 2 _ rfl; (with_reducible repeat (first | refine blk_drewN ?_ _ | refine blk_drew ?_ | refine blk_alloc ?_ _)); refine blk_put (cs := #[.int .i64 t248, .slice none 0 0, .slice none 0 0]) ?_ 1 _ rfl; (with_reducible repeat (first | refine blk_drewN ?_ _ | refine blk_drew ?_ | refine blk_alloc ?_ _)); refine blk_put (cs := #[.int .i64 0, .slice none 0 0, .slice none 0 0]) ?_ 0 _ rfl; (with_reducible repeat (first | refine blk_drewN ?_ _ | refine blk_drew ?_ | refine blk_alloc ?_ _)); exact BK259.out) hb); replace HB := Ls_ HB hb; (try clear hb); (try clear hb2); (try clear hk); (try clear hi)) | ((with_reducible refine gate_dst (N := 6) rfl ?_); (try (refine gate_guard (by rfl) ?_; dsimp only)); refine box_ 6 47 #[.int .i64 0, .int .i64 0, .int .i64 0] ?_; intro gb265 hg w88 hbox hb; have BK265 := Aside0.mk (hbox); have GW265 := G_ hg HB; have GE265 := G_ hg HB; have NB247_265 := Nl_ hg BK247; have NB265_247 := Ng_ hg BK247; have NB259_265 := Nl_ hg BK259; have NB265_259 := Ng_ hg BK259; replace HO242 := Rb_ HO242 hb; replace HO245 := Aside0.mk (Kd.R_below (Kd.R_elderB (R_ HO245) gb265 (Nat.le_of_eq hg.symm)) hb); replace HO251 := Rb_ HO251 hb; replace HO254 := Aside0.mk (Kd.R_below (Kd.R_elderB (R_ HO254) gb265 (Nat.le_of_eq hg.symm)) hb); replace HO257 := Rb_ HO257 hb; replace BK247 := Bb_ BK247 hb; replace BK259 := Bb_ BK259 hb; replace HB := Ls_ HB hb; clear hb hbox hg; have hnb89 := NB265_247.out; have hnc89 := NB247_265.out; have hnb90 := NB265_259.out; have hnc90 := NB259_265.out; have hcz91_0 : w88.cell? ⟨gb265, 0, none⟩ = some (.int .i64 0) := (blk_cell BK265.out 0).trans rfl; have hcz91_1 : w88.cell? ⟨gb265, 1, none⟩ = some (.int .i64 0) := (blk_cell BK265.out 1).trans rfl; have hcz91_2 : w88.cell? ⟨gb265, 2, none⟩ = some (.int .i64 0) := (blk_cell BK265.out 2).trans rfl; have hfz91_0 := blk_frozen BK265.out 0; have hfz91_1 := blk_frozen BK265.out 1; have hfz91_2 := blk_frozen BK265.out 2))
     go_ret
     exact ⟨E_, L_⟩
 · rw [if_neg c4] at H
   have c4b0 : (t246 == 0) = false := beq_eq_false_iff_ne.mpr c4
   have c4b1 : (t246 != 0) = true := bne_iff_ne.mpr c4
   obtain rfl := Option.some.inj H
   go_enter Try.func7, Try.ntmps7
   go_wp2_with (first | ((with_reducible refine gate_callee (f := 21) rfl ?_); refine goesL_ (some 12) rfl rfl Try.func21 (by kernel_rfl) rfl #[.agg #[.int .i64 0, .slice none 0 0, .slice none 0 0], .agg #[.int .i64 2, .int .i64 5, .int .i64 1000], .int .i64 1500] rfl M_ ?_; (refine (vtimer_Start.calls 0 _ _ ([] : List (S88)) _ _ ([] : List (S47)) 2 5 1000 1500 t239 t240 t243 t246 _ ?side1 ?side2 ?side3 ?side4 A1.out).mono ?_); (case side1 => exact Kd.C_nil _ _); (case side2 => exact Nat.le_refl _); (case side3 => exact Kd.C_nil _ _); (case side4 => exact Nat.le_refl _); rintro e w92 ⟨v241, v244, rfl, ho0, ho1, hb⟩; refine ⟨_, rfl, ?_⟩; have HO242 := Aside0.mk (Kd.R_lower ho0 (below_size L_)); have HO245 := Aside0.mk (Kd.R_lower ho1 (below_size L_)); replace HB := Ls_ HB hb; (try clear hb); (try clear hb2); (try clear hk); (try clear hi); (try clear ho0); (try clear ho1)) | ((with_reducible refine gate_dst (N := 1) rfl ?_); (try (refine gate_guard (by rfl) ?_; dsimp only)); refine box_ 1 27 #[.int .i64 0, .slice none 0 0, .slice none 0 0] ?_; intro gb247 hg w93 hbox hb; have BK247 := Aside0.mk (hbox); have GW247 := G_ hg HB; have GE247 := G_ hg HB; replace HO242 := Rb_ HO242 hb; replace HO245 := Rb_ HO245 hb; replace HB := Ls_ HB hb; clear hb hbox hg; have hcz94_0 : w93.cell? ⟨gb247, 0, none⟩ = some (.int .i64 0) := (blk_cell BK247.out 0).trans rfl; have hcz94_1 : w93.cell? ⟨gb247, 1, none⟩ = some (.slice none 0 0) := (blk_cell BK247.out 1).trans rfl; have hcz94_2 : w93.cell? ⟨gb247, 2, none⟩ = some (.slice none 0 0) := (blk_cell BK247.out 2).trans rfl; have hfz94_0 := blk_frozen BK247.out 0; have hfz94_1 := blk_frozen BK247.out 1; have hfz94_2 := blk_frozen BK247.out 2; obtain ⟨Ao95, co95, eo95⟩ := Kd.R_slice HO242.out; subst eo95; obtain ⟨Ao96, co96, eo96⟩ := Kd.R_slice HO245.out; subst eo96) | ((with_reducible refine gate_callee (f := 10) rfl ?_); refine goesL_ (some 17) rfl rfl Try.func10 (by kernel_rfl) rfl #[.agg #[.int .i64 t239, .slice Ao95 t240.length co95, .slice Ao96 t243.length co96], .int .i64 5000] rfl M_ ?_; (with_reducible refine (vtimer_Pass.calls t239 _ _ t240 _ _ t243 5000 t248 t249 t252 t255 t258 _ ?side1 ?side2 ?side3 ?side4 A2.out).mono ?_); (case side1 => exact Rr_ HO242 BK247); (case side2 => exact (Kd.R_reads' HO242.out).2.1); (case side3 => exact Rr_ HO245 BK247); (case side4 => exact (Kd.R_reads' HO245.out).2.1); rintro e w97 ⟨v250, v253, v256, rfl, ho0, ho1, ho2, hb⟩; refine ⟨_, rfl, ?_⟩; have HO251 := Aside0.mk (Kd.R_lower (Kd.R_new' ho0 (Kd.R_lt (Rf_ HO242 BK247))) (below_size L_)); have HO254 := Aside0.mk (Kd.R_lower (Kd.R_new' ho1 (Kd.R_lt (Rf_ HO245 BK247))) (below_size L_)); have HO257 := Aside0.mk (Kd.R_lower ho2 (below_size L_)); replace HO242 := Aside0.mk (Kd.R_elder' (Rf_ HO242 BK247) (Kd.R_base ho0) hb); replace HO245 := Aside0.mk (Kd.R_elder' (Rf_ HO245 BK247) (Kd.R_base ho1) hb); replace BK247 := Aside0.mk (blk_below (g := gb247) (o := .cells #[.int .i64 t239, .slice Ao95 t240.length co95, .slice Ao96 t243.length co96] 27 (0, 0)) (by (with_reducible repeat (first | refine blk_drewN ?_ _ | refine blk_drew ?_ | refine blk_alloc ?_ _)); refine blk_put (cs := #[.int .i64 t239, .slice Ao95 t240.length co95, .slice none 0 0]) ?_ 2 _ rfl; (with_reducible repeat (first | refine blk_drewN ?_ _ | refine blk_drew ?_ | refine blk_alloc ?_ _)); refine blk_put (cs := #[.int .i64 t239, .slice none 0 0, .slice none 0 0]) ?_ 1 _ rfl; (with_reducible repeat (first | refine blk_drewN ?_ _ | refine blk_drew ?_ | refine blk_alloc ?_ _)); refine blk_put (cs := #[.int .i64 0, .slice none 0 0, .slice none 0 0]) ?_ 0 _ rfl; (with_reducible repeat (first | refine blk_drewN ?_ _ | refine blk_drew ?_ | refine blk_alloc ?_ _)); exact BK247.out) hb); replace HB := Ls_ HB hb; (try clear hb); (try clear hb2); (try clear hk); (try clear hi); (try clear ho0); (try clear ho1); (try clear ho2)) | ((with_reducible refine gate_dst (N := 3) rfl ?_); (try (refine gate_guard (by rfl) ?_; dsimp only)); refine box_ 3 27 #[.int .i64 0, .slice none 0 0, .slice none 0 0] ?_; intro gb259 hg w98 hbox hb; have BK259 := Aside0.mk (hbox); have GW259 := G_ hg HB; have GE259 := G_ hg HB; have NB247_259 := Nl_ hg BK247; have NB259_247 := Ng_ hg BK247; replace HO242 := Rb_ HO242 hb; replace HO245 := Rb_ HO245 hb; replace HO251 := Rb_ HO251 hb; replace HO254 := Rb_ HO254 hb; replace HO257 := Rb_ HO257 hb; replace BK247 := Bb_ BK247 hb; replace HB := Ls_ HB hb; clear hb hbox hg; have hnb99 := NB259_247.out; have hnc99 := NB247_259.out; have hcz100_0 : w98.cell? ⟨gb259, 0, none⟩ = some (.int .i64 0) := (blk_cell BK259.out 0).trans rfl; have hcz100_1 : w98.cell? ⟨gb259, 1, none⟩ = some (.slice none 0 0) := (blk_cell BK259.out 1).trans rfl; have hcz100_2 : w98.cell? ⟨gb259, 2, none⟩ = some (.slice none 0 0) := (blk_cell BK259.out 2).trans rfl; have hfz100_0 := blk_frozen BK259.out 0; have hfz100_1 := blk_frozen BK259.out 1; have hfz100_2 := blk_frozen BK259.out 2; obtain ⟨Ao101, co101, eo101⟩ := Kd.R_slice HO251.out; subst eo101; obtain ⟨Ao102, co102, eo102⟩ := Kd.R_slice HO254.out; subst eo102) | ((with_reducible refine gate_callee (f := 14) rfl ?_); refine goesL_ (some 23) rfl rfl Try.func14 (by kernel_rfl) rfl #[.agg #[.int .i64 t248, .slice Ao101 t249.length co101, .slice Ao102 t252.length co102], .int .i64 2] rfl M_ ?_; (with_reducible refine (vtimer_Get.calls k t248 _ _ t249 _ _ t252 2 t260 t261 t262 t263 t264 _ ?side1 ?side2 ?side3 ?side4 A3.out).mono ?_); (case side1 => exact Rr_ HO251 BK259); (case side2 => exact (Kd.R_reads' HO251.out).2.1); (case side3 => exact Rr_ HO254 BK259); (case side4 => exact (Kd.R_reads' HO254.out).2.1); rintro e w103 ⟨rfl, hb⟩; refine ⟨_, rfl, ?_⟩; replace HO242 := Aside0.mk (Kd.R_below (Rf_ HO242 BK259) hb); replace HO245 := Aside0.mk (Kd.R_below (Rf_ HO245 BK259) hb); replace HO251 := Aside0.mk (Kd.R_below (Rf_ HO251 BK259) hb); replace HO254 := Aside0.mk (Kd.R_below (Rf_ HO254 BK259) hb); replace HO257 := Aside0.mk (Kd.R_below (Rf_ HO257 BK259) hb); replace BK247 := Aside0.mk (blk_below (Bz_ BK247) hb); replace BK259 := Aside0.mk (blk_below (g := gb259) (o := .cells #[.int .i64 t248, .slice Ao101 t249.length co101, .slice Ao102 t252.length co102] 27 (0, 0)) (by (with_reducible repeat (first | refine blk_drewN ?_ _ | refine blk_drew ?_ | refine blk_alloc ?_ _)); refine blk_put (cs := #[.int .i64 t248, .slice Ao101 t249.length co101, .slice none 0 0]) ?_ 2 _ rfl; (with_reducible repeat (first | refine blk_drewN ?_ _ | refine blk_drew ?_ | refine blk_alloc ?_ _)); refine blk_put (cs := #[.int .i64 t248, .slice none 0 0, .slice none 0 0]) ?_ 1 _ rfl; (with_reducible repeat (first | refine blk_drewN ?_ _ | refine blk_drew ?_ | refine blk_alloc ?_ _)); refine blk_put (cs := #[.int .i64 0, .slice none 0 0, .slice none 0 0]) ?_ 0 _ rfl; (with_reducible repeat (first | refine blk_drewN ?_ _ | refine blk_drew ?_ | refine blk_alloc ?_ _)); exact BK259.out) hb); replace HB := Ls_ HB hb; (try clear hb); (try clear hb2); (try clear hk); (try clear hi)) | ((with_reducible refine gate_dst (N := 6) rfl ?_); (try (refine gate_guard (by rfl) ?_; dsimp only)); refine box_ 6 47 #[.int .i64 0, .int .i64 0, .int .i64 0] ?_; intro gb265 hg w104 hbox hb; have BK265 := Aside0.mk (hbox); have GW265 := G_ hg HB; have GE265 := G_ hg HB; have NB247_265 := Nl_ hg BK247; have NB265_247 := Ng_ hg BK247; have NB259_265 := Nl_ hg BK259; have NB265_259 := Ng_ hg BK259; replace HO242 := Rb_ HO242 hb; replace HO245 := Aside0.mk (Kd.R_below (Kd.R_elderB (R_ HO245) gb265 (Nat.le_of_eq hg.symm)) hb); replace HO251 := Rb_ HO251 hb; replace HO254 := Aside0.mk (Kd.R_below (Kd.R_elderB (R_ HO254) gb265 (Nat.le_of_eq hg.symm)) hb); replace HO257 := Rb_ HO257 hb; replace BK247 := Bb_ BK247 hb; replace BK259 := Bb_ BK259 hb; replace HB := Ls_ HB hb; clear hb hbox hg; have hnb105 := NB265_247.out; have hnc105 := NB247_265.out; have hnb106 := NB265_259.out; have hnc106 := NB259_265.out; have hcz107_0 : w104.cell? ⟨gb265, 0, none⟩ = some (.int .i64 0) := (blk_cell BK265.out 0).trans rfl; have hcz107_1 : w104.cell? ⟨gb265, 1, none⟩ = some (.int .i64 0) := (blk_cell BK265.out 1).trans rfl; have hcz107_2 : w104.cell? ⟨gb265, 2, none⟩ = some (.int .i64 0) := (blk_cell BK265.out 2).trans rfl; have hfz107_0 := blk_frozen BK265.out 0; have hfz107_1 := blk_frozen BK265.out 1; have hfz107_2 := blk_frozen BK265.out 2))
   go_ret
   exact ⟨E_, L_⟩

/-! ### mainsheetlaw18_short: function 8 -/
def mainsheetlaw18_short.f (a0_0 : Int) (l0_1 : List (S88)) (l0_2 : List (S47)) : Option (Int × (List (S88)) × (List (S47))) := if 0 ≤ (mn (l0_1.length : Int) 33) then (if (mn (l0_1.length : Int) 33) ≤ (l0_1.length : Int) then (if 0 ≤ (mn (l0_2.length : Int) 17) then (if (mn (l0_2.length : Int) 17) ≤ (l0_2.length : Int) then ((mainsheetref18_Copy.f a0_0 (l0_1.take ((mn (l0_1.length : Int) 33) : Int).toNat) (l0_2.take ((mn (l0_2.length : Int) 17) : Int).toNat)).bind fun bt277 => (some (bt277.1, bt277.2.1, bt277.2.2))) else (none)) else (none)) else (none)) else (none)
def mainsheetlaw18_short.T1 : Bool × List (List Nat × List Nat) := (true, [([], []), ([0], [0]), ([1], [1]), ([], []), ([3], [3]), ([4], [4]), ([5], [5]), ([6], [6]), ([2, 7], [2, 7]), ([], []), ([9], [9]), ([], []), ([11], [11]), ([12], [12]), ([13], [13]), ([10, 14], [10, 14]), ([0, 1, 2, 3, 4, 5, 6, 7, 8, 9, 10, 11, 12], []), ([16, 0, 1, 2, 3, 4, 5, 6, 7, 8, 9, 10, 11, 12], [16]), ([17, 8, 0, 1, 2, 3, 4, 5, 6, 7, 8, 9, 10, 11, 12], [8, 17]), ([0, 1, 2, 3, 4, 5, 6, 7, 8, 9, 10, 11, 12, 13, 14, 15, 16, 17, 18], []), ([19, 15, 18, 0, 1, 2, 3, 4, 5, 6, 7, 8, 9, 10, 11, 12, 13, 14, 15, 16, 17, 18], [15, 19])])
def mainsheetlaw18_short.B1 : List Nat := [0, 1, 3, 0, 8, 24, 56, 120, 255, 0, 512, 0, 2048, 6144, 14336, 32256, 8191, 73727, 204799, 524287, 1048575]
theorem mainsheetlaw18_short.tab1 : rtab .any (opsOf Try.f8 1) = mainsheetlaw18_short.T1 := by kernel_rfl
theorem mainsheetlaw18_short.bits1 : waitsOk mainsheetlaw18_short.T1.2 mainsheetlaw18_short.B1 = true := by kernel_rfl
set_option maxHeartbeats 8000000 in
set_option maxRecDepth 100000 in
theorem mainsheetlaw18_short.calls (a0_0 : Int) (A0_1 : Option Addr) (c0_1 : Nat) (l0_1 : List (S88)) (A0_2 : Option Addr) (c0_2 : Nat) (l0_2 : List (S47)) (r1 : Int) (r2 : List (S88)) (r3 : List (S47)) (w : World) (hr0_1 : Kd.C k88 w A0_1 l0_1.length l0_1) (hc0_1 : l0_1.length ≤ c0_1) (hr0_2 : Kd.C k47 w A0_2 l0_2.length l0_2) (hc0_2 : l0_2.length ≤ c0_2) (h : mainsheetlaw18_short.f a0_0 l0_1 l0_2 = some (r1, r2, r3)) :
 Calls Try.prog 8 #[.agg #[.int .i64 a0_0, .slice A0_1 l0_1.length c0_1, .slice A0_2 l0_2.length c0_2]] w fun e w' => ∃ v1_ v2_ : Value, e = .returned (.agg #[.int .i64 r1, v1_, v2_]) ∧ Kd.R k88 88 w' w.heap.size (fun _ => True) v1_ r2 ∧ Kd.R k47 47 w' w.heap.size (fun _ => True) v2_ r3 ∧ Below w.heap.size w w' := by
 have hu27 := Try.underlying27
 have HR0_1 := Aside0.mk hr0_1
 have HC0_1 := Aside0.mk hc0_1
 clear hr0_1 hc0_1
 have HR0_2 := Aside0.mk hr0_2
 have HC0_2 := Aside0.mk hc0_2
 clear hr0_2 hc0_2
 have HB := Aside0.mk (Below.refl w.heap.size w)
 have H : (if 0 ≤ (mn (l0_1.length : Int) 33) then (if (mn (l0_1.length : Int) 33) ≤ (l0_1.length : Int) then (if 0 ≤ (mn (l0_2.length : Int) 17) then (if (mn (l0_2.length : Int) 17) ≤ (l0_2.length : Int) then ((mainsheetref18_Copy.f a0_0 (l0_1.take ((mn (l0_1.length : Int) 33) : Int).toNat) (l0_2.take ((mn (l0_2.length : Int) 17) : Int).toNat)).bind fun bt277 => (some (bt277.1, bt277.2.1, bt277.2.2))) else (none)) else (none)) else (none)) else (none)) = some (r1, r2, r3) := h
 clear h
 obtain ⟨ji2, hji2⟩ : ∃ j_ : Int, (mn (l0_1.length : Int) 33) = j_ := ⟨_, rfl⟩
 replace H : (if 0 ≤ (ji2) then (if (ji2) ≤ (l0_1.length : Int) then (if 0 ≤ (mn (l0_2.length : Int) 17) then (if (mn (l0_2.length : Int) 17) ≤ (l0_2.length : Int) then ((mainsheetref18_Copy.f a0_0 (l0_1.take ((ji2) : Int).toNat) (l0_2.take ((mn (l0_2.length : Int) 17) : Int).toNat)).bind fun bt277 => (some (bt277.1, bt277.2.1, bt277.2.2))) else (none)) else (none)) else (none)) else (none)) = some (r1, r2, r3) := by first | (rw [hji2] at H; exact H) | (simp only [hji2] at H ⊢; exact H)
 (try (have hji2h : ji2 ≤ 33 := by (rw [← hji2]; unfold mn; (repeat' split) <;> omega)))
 (try (have hji2g : ji2 ≤ 64 := by omega))
 (try (have hji2l : 0 ≤ ji2 := by (rw [← hji2]; unfold mn; (repeat' split) <;> omega)))
 (try (have hji2m : 0 ≤ ji2 := by omega))
 have hji2_ : (if 33 < (l0_1.length : Int) then 33 else (l0_1.length : Int)) = ji2 := hji2
 by_cases c3 : 0 ≤ (ji2)
 · rw [if_pos c3] at H
   have c3b0 := eq_true c3
   have c3b1 : decide (0 ≤ (ji2)) = true := decide_eq_true c3
   clear c3
   by_cases c4 : (ji2) ≤ (l0_1.length : Int)
   · rw [if_pos c4] at H
     have c4b0 := eq_true c4
     have c4b1 : decide ((ji2) ≤ (l0_1.length : Int)) = true := decide_eq_true c4
     clear c4
     obtain ⟨y269, hy269⟩ : ∃ y_ : List (S88), y_ = (l0_1.take ((ji2) : Int).toNat) := ⟨_, rfl⟩
     replace H : (if 0 ≤ (mn (l0_2.length : Int) 17) then (if (mn (l0_2.length : Int) 17) ≤ (l0_2.length : Int) then ((mainsheetref18_Copy.f a0_0 y269 (l0_2.take ((mn (l0_2.length : Int) 17) : Int).toNat)).bind fun bt277 => (some (bt277.1, bt277.2.1, bt277.2.2))) else (none)) else (none)) = some (r1, r2, r3) := by first | (rw [hy269]; with_reducible exact H) | (have H2_ := (Option.bind_some _ _).symm.trans H; rw [hy269]; with_reducible exact H2_) | (have H2_ := (Option.bind_some _ _).symm.trans H; with_reducible exact H2_) | with_reducible exact H | (rw [hy269]; exact H) | exact H
     have Ny269 := Aside0.mk hy269
     clear hy269
     obtain ⟨ji5, hji5⟩ : ∃ j_ : Int, (mn (l0_2.length : Int) 17) = j_ := ⟨_, rfl⟩
     replace H : (if 0 ≤ (ji5) then (if (ji5) ≤ (l0_2.length : Int) then ((mainsheetref18_Copy.f a0_0 y269 (l0_2.take ((ji5) : Int).toNat)).bind fun bt277 => (some (bt277.1, bt277.2.1, bt277.2.2))) else (none)) else (none)) = some (r1, r2, r3) := by first | (rw [hji5] at H; exact H) | (simp only [hji5] at H ⊢; exact H)
     (try (have hji5h : ji5 ≤ 17 := by (rw [← hji5]; unfold mn; (repeat' split) <;> omega)))
     (try (have hji5g : ji5 ≤ 64 := by omega))
     (try (have hji5l : 0 ≤ ji5 := by (rw [← hji5]; unfold mn; (repeat' split) <;> omega)))
     (try (have hji5m : 0 ≤ ji5 := by omega))
     have hji5_ : (if 17 < (l0_2.length : Int) then 17 else (l0_2.length : Int)) = ji5 := hji5
     by_cases c6 : 0 ≤ (ji5)
     · rw [if_pos c6] at H
       have c6b0 := eq_true c6
       have c6b1 : decide (0 ≤ (ji5)) = true := decide_eq_true c6
       clear c6
       by_cases c7 : (ji5) ≤ (l0_2.length : Int)
       · rw [if_pos c7] at H
         have c7b0 := eq_true c7
         have c7b1 : decide ((ji5) ≤ (l0_2.length : Int)) = true := decide_eq_true c7
         clear c7
         obtain ⟨y273, hy273⟩ : ∃ y_ : List (S47), y_ = (l0_2.take ((ji5) : Int).toNat) := ⟨_, rfl⟩
         replace H : ((mainsheetref18_Copy.f a0_0 y269 y273).bind fun bt277 => (some (bt277.1, bt277.2.1, bt277.2.2))) = some (r1, r2, r3) := by first | (rw [hy273]; with_reducible exact H) | (have H2_ := (Option.bind_some _ _).symm.trans H; rw [hy273]; with_reducible exact H2_) | (have H2_ := (Option.bind_some _ _).symm.trans H; with_reducible exact H2_) | with_reducible exact H | (rw [hy273]; exact H) | exact H
         have Ny273 := Aside0.mk hy273
         clear hy273
         replace H := Option.bind_eq_some_iff.mp H
         obtain ⟨⟨t277, t278, t281⟩, A80, H⟩ := H
         replace H : (some (t277, t278, t281)) = some (r1, r2, r3) := H
         have A8 := Aside0.mk A80
         clear A80
         simp only [Option.some.injEq, Prod.mk.injEq] at H
         obtain ⟨rfl, rfl, rfl⟩ := H
         go_enter Try.func8, Try.ntmps8
         try go_wp2_with (first | ((with_reducible refine gate_dst (N := 1) rfl ?_); refine box_ 1 27 #[.int .i64 a0_0, .slice A0_1 l0_1.length c0_1, .slice A0_2 l0_2.length c0_2] ?_; intro gb267 hg w9 hbox hb; have BK267 := Aside0.mk (hbox); have GW267 := G_ hg HB; have GE267 := G_ hg HB; replace HB := Ls_ HB hb; clear hb hbox hg) | ((with_reducible refine gate_dst (N := 2) rfl ?_); refine box_ 2 27 #[.int .i64 0, .slice none 0 0, .slice none 0 0] ?_; intro gb268 hg w10 hbox hb; have BK268 := Aside0.mk (hbox); have GW268 := G_ hg HB; have GE268 := G_ hg HB; have NB267_268 := Nl_ hg BK267; have NB268_267 := Ng_ hg BK267; replace BK267 := Bb_ BK267 hb; replace HB := Ls_ HB hb; clear hb hbox hg))
         have n0_ := Aside0.mk (blk_drew BK267.out)
         have n1_ := Aside0.mk (blk_drew BK268.out)
         have n2_ := Aside0.mk (below_drew1 HB.out)
         clear BK267
         clear BK268
         clear HB
         have BK267 := n0_
         have BK268 := n1_
         have HB := n2_
         clear n0_ n1_ n2_
         have q12 : ((ji2) : Int) ≤ ((l0_1.length : Int) : Int) := of_decide_eq_true As_
         obtain ⟨i012, hi012, _, hsz12, _⟩ := info_parts info88
         have hroom12 : l0_1.length ≤ c0_1 := HC0_1.out
         have hC12 : Kd.C k88 _ A0_1 l0_1.length l0_1 := HR0_1.out
         have hcut12 := cut_to (P := Try.prog) 22 88 .i64 Try.underlying22 hi012 A0_1 l0_1.length c0_1 (ji2) (of_decide_eq_true As_) q12 hroom12
         have hr12 := Kd.C_take (m := ((ji2) : Int).toNat) hC12 (by omega)
         have hy12 : y269.length = ((ji2) : Int).toNat := (by rw [Ny269.out, List.length_take]; omega)
         rw [← Ny269.out] at hr12
         rw [← hy12] at hcut12
         have HR272 := Aside0.mk hr12
         have HC272 := Aside0.mk (show y269.length ≤ c0_1 from by omega)
         clear hr12 hC12 hroom12 hi012 hsz12
         have KY12 := Aside0.mk hy12
         clear hy12
         replace q12 := eq_true q12
         have q13 : ((ji5) : Int) ≤ ((l0_2.length : Int) : Int) := of_decide_eq_true As_
         obtain ⟨i013, hi013, _, hsz13, _⟩ := info_parts info47
         have hroom13 : l0_2.length ≤ c0_2 := HC0_2.out
         have hC13 : Kd.C k47 _ A0_2 l0_2.length l0_2 := HR0_2.out
         have hcut13 := cut_to (P := Try.prog) 25 47 .i64 Try.underlying25 hi013 A0_2 l0_2.length c0_2 (ji5) (of_decide_eq_true As_) q13 hroom13
         have hr13 := Kd.C_take (m := ((ji5) : Int).toNat) hC13 (by omega)
         have hy13 : y273.length = ((ji5) : Int).toNat := (by rw [Ny273.out, List.length_take]; omega)
         rw [← Ny273.out] at hr13
         rw [← hy13] at hcut13
         have HR276 := Aside0.mk hr13
         have HC276 := Aside0.mk (show y273.length ≤ c0_2 from by omega)
         clear hr13 hC13 hroom13 hi013 hsz13
         have KY13 := Aside0.mk hy13
         clear hy13
         replace q13 := eq_true q13
         refine st_ 21 (fun w' => w'.cell? ⟨gb267, 0, none⟩ = some (.int .i64 a0_0) ∧ w'.cell? ⟨gb267, 1, none⟩ = some (.slice A0_1 l0_1.length c0_1) ∧ w'.cell? ⟨gb267, 2, none⟩ = some (.slice A0_2 l0_2.length c0_2)) [18, 20] ⟨(blk_cell BK267.out 0).trans rfl, (blk_cell BK267.out 1).trans rfl, (blk_cell BK267.out 2).trans rfl⟩ (fun hHeld => ?_); refine with_tabW mainsheetlaw18_short.tab1 mainsheetlaw18_short.bits1 (fun HT_ HW_ => ?_)
         generalize w10.drew = w11 at BK267 BK268 HB HR272 HR276 hHeld ⊢
         refine pu_ 0 3 HT_ ?_
         refine pu_ 1 4 HT_ ?_
         refine pu_ 3 6 HT_ ?_
         refine pu_ 4 7 HT_ ?_
         refine pu_ 9 12 HT_ ?_
         refine pu_ 11 14 HT_ ?_
         refine ta_ 2 5 HT_ HW_ rfl rfl hHeld (by rintro w' ⟨s0, s1, s2⟩; go_simp; with_reducible rfl) ?_
         refine ta_ 5 8 HT_ HW_ rfl rfl hHeld (by rintro w' ⟨s0, s1, s2⟩; go_simp; with_reducible rfl) ?_
         refine pu_ 6 9 HT_ ?_
         refine pu_ 7 10 HT_ ?_
         refine pu_ 8 11 HT_ ?_
         refine ta_ 10 13 HT_ HW_ rfl rfl hHeld (by rintro w' ⟨s0, s1, s2⟩; go_simp; with_reducible rfl) ?_
         refine ta_ 12 15 HT_ HW_ rfl rfl hHeld (by rintro w' ⟨s0, s1, s2⟩; go_simp; with_reducible rfl) ?_
         refine pu_ 13 16 HT_ ?_
         refine pu_ 14 17 HT_ ?_
         refine pu_ 15 18 HT_ ?_
         refine pu_ 16 19 HT_ ?_
         refine pu_ 17 20 HT_ ?_
         refine last_ (i := 18) (N := none) #[true, true, true, true, true, true, true, true, true, true, true, true, true, true, true, true, true, true, true, false, false] rfl rfl (one_of HT_.out (by kernel_rfl)) (by decide) (fun K hK => ?_)
         have hs14 : w11.cell? ⟨gb267, 1, none⟩ = some (.slice A0_1 l0_1.length c0_1) := (blk_cell BK267.out 1).trans rfl
         have hfs14 := blk_frozen BK267.out 1
         have hns14_1 := NB268_267.out
         have hms14_1 := NB267_268.out
         refine skip_ (w1 := ?_) (by rfl) rfl ?_ ?_
         rotate_left
         · go_simp
           rfl
         refine hK.out _ _ ?_
         clear hK K
         refine pu_ 19 21 HT_ ?_
         refine last_ (i := 20) (N := none) #[true, true, true, true, true, true, true, true, true, true, true, true, true, true, true, true, true, true, true, true, true] rfl rfl (one_of HT_.out (by kernel_rfl)) (by decide) (fun K hK => ?_)
         have hs15 : w11.cell? ⟨gb267, 2, none⟩ = some (.slice A0_2 l0_2.length c0_2) := (blk_cell BK267.out 2).trans rfl
         have hfs15 := blk_frozen BK267.out 2
         have hns15_1 := NB268_267.out
         have hms15_1 := NB267_268.out
         refine skip_ (w1 := ?_) (by rfl) rfl ?_ ?_
         rotate_left
         · go_simp
           rfl
         refine hK.out _ _ ?_
         clear hK K
         refine done_ (done_of HT_.out (by kernel_rfl)) ?_
         have hnb16 := NB267_268.out
         have hnc16 := NB268_267.out
         have hcz17_0 : w11.cell? ⟨gb267, 0, none⟩ = some (.int .i64 a0_0) := (blk_cell BK267.out 0).trans rfl
         have hcz17_1 : w11.cell? ⟨gb267, 1, none⟩ = some (.slice A0_1 l0_1.length c0_1) := (blk_cell BK267.out 1).trans rfl
         have hcz17_2 : w11.cell? ⟨gb267, 2, none⟩ = some (.slice A0_2 l0_2.length c0_2) := (blk_cell BK267.out 2).trans rfl
         have hfz17_0 := blk_frozen BK267.out 0
         have hfz17_1 := blk_frozen BK267.out 1
         have hfz17_2 := blk_frozen BK267.out 2
         try go_wp2_with (first | ((with_reducible refine gate_callee (f := 26) rfl ?_); refine goesL_ (some 23) rfl rfl Try.func26 (by kernel_rfl) rfl #[.agg #[.int .i64 a0_0, .slice A0_1 y269.length c0_1, .slice A0_2 y273.length c0_2]] rfl M_ ?_; (with_reducible refine (mainsheetref18_Copy.calls a0_0 _ _ y269 _ _ y273 t277 t278 t281 _ ?side1 ?side2 ?side3 ?side4 A8.out).mono ?_); (case side1 => exact Kd.C_below HR272.out L_); (case side2 => exact HC272.out); (case side3 => exact Kd.C_below HR276.out L_); (case side4 => exact HC276.out); rintro e w18 ⟨v279, v282, rfl, ho0, ho1, hb⟩; refine ⟨_, rfl, ?_⟩; have HO280 := Aside0.mk (Kd.R_lower ho0 (below_size L_)); have HO283 := Aside0.mk (Kd.R_lower ho1 (below_size L_)); replace BK267 := Aside0.mk (blk_below (g := gb267) (o := .cells #[.int .i64 a0_0, .slice A0_1 y269.length c0_1, .slice A0_2 y273.length c0_2] 27 (0, 0)) (by (with_reducible repeat (first | refine blk_drewN ?_ _ | refine blk_drew ?_ | refine blk_alloc ?_ _)); refine blk_put (cs := #[.int .i64 a0_0, .slice A0_1 y269.length c0_1, .slice A0_2 l0_2.length c0_2]) ?_ 2 _ rfl; (with_reducible repeat (first | refine blk_drewN ?_ _ | refine blk_drew ?_ | refine blk_alloc ?_ _)); refine blk_put (cs := #[.int .i64 a0_0, .slice A0_1 l0_1.length c0_1, .slice A0_2 l0_2.length c0_2]) ?_ 1 _ rfl; (with_reducible repeat (first | refine blk_drewN ?_ _ | refine blk_drew ?_ | refine blk_alloc ?_ _)); exact BK267.out) hb); replace BK268 := Aside0.mk (blk_below (Bz_ BK268) hb); replace HB := Ls_ HB hb; (try clear hb); (try clear hb2); (try clear hk); (try clear hi); (try clear ho0); (try clear ho1); have hcz19_0 : w18.cell? ⟨gb268, 0, none⟩ = some (.int .i64 0) := (blk_cell BK268.out 0).trans rfl; have hcz19_1 : w18.cell? ⟨gb268, 1, none⟩ = some (.slice none 0 0) := (blk_cell BK268.out 1).trans rfl; have hcz19_2 : w18.cell? ⟨gb268, 2, none⟩ = some (.slice none 0 0) := (blk_cell BK268.out 2).trans rfl; have hfz19_0 := blk_frozen BK268.out 0; have hfz19_1 := blk_frozen BK268.out 1; have hfz19_2 := blk_frozen BK268.out 2; obtain ⟨Ao20, co20, eo20⟩ := Kd.R_slice HO280.out; subst eo20; obtain ⟨Ao21, co21, eo21⟩ := Kd.R_slice HO283.out; subst eo21))
         refine bodyPost_ret (results_cell_row rfl _ _ gb268 27 #[.int .i64 t277, .slice Ao20 t278.length co20, .slice Ao21 t281.length co21] (0, 0) _ rfl (by (with_reducible repeat (first | refine blk_drewN ?_ _ | refine blk_drew ?_ | refine blk_alloc ?_ _)); refine blk_put (cs := #[.int .i64 t277, .slice Ao20 t278.length co20, .slice none 0 0]) ?_ 2 _ rfl; (with_reducible repeat (first | refine blk_drewN ?_ _ | refine blk_drew ?_ | refine blk_alloc ?_ _)); refine blk_put (cs := #[.int .i64 t277, .slice none 0 0, .slice none 0 0]) ?_ 1 _ rfl; (with_reducible repeat (first | refine blk_drewN ?_ _ | refine blk_drew ?_ | refine blk_alloc ?_ _)); refine blk_put (cs := #[.int .i64 0, .slice none 0 0, .slice none 0 0]) ?_ 0 _ rfl; (with_reducible repeat (first | refine blk_drewN ?_ _ | refine blk_drew ?_ | refine blk_alloc ?_ _)); exact BK268.out) Try.underlying27 rfl (by kernel_rfl)) rfl ?_
         exact ⟨_, _, by first | rfl | (simp [errW_none, errW_some] <;> rfl) | (simp only [← hji2, ← hji5]; first | rfl | (simp [errW_none, errW_some] <;> rfl)) | (simp [*, errW_none, errW_some] <;> rfl), by (with_reducible repeat (first | apply Kd.R_alloc | apply Kd.R_drewN | apply Kd.R_drew)); exact Kd.R_mono (Kd.R_far (p := ⟨gb268, 2, none⟩) (Kd.R_far (p := ⟨gb268, 1, none⟩) (Kd.R_far (p := ⟨gb268, 0, none⟩) (Kd.R_types HO280.out BK268.out (by decide)) (fun _ hk => hk.2) (.int .i64 t277)) (fun _ hk => hk.2) (.slice Ao20 t278.length co20)) (fun _ hk => hk.2) (.slice Ao21 t281.length co21)) (fun _ hk => trivial), by (with_reducible repeat (first | apply Kd.R_alloc | apply Kd.R_drewN | apply Kd.R_drew)); exact Kd.R_mono (Kd.R_far (p := ⟨gb268, 2, none⟩) (Kd.R_far (p := ⟨gb268, 1, none⟩) (Kd.R_far (p := ⟨gb268, 0, none⟩) (Kd.R_types HO283.out BK268.out (by decide)) (fun _ hk => hk.2) (.int .i64 t277)) (fun _ hk => hk.2) (.slice Ao20 t278.length co20)) (fun _ hk => hk.2) (.slice Ao21 t281.length co21)) (fun _ hk => trivial), L_⟩
       · rw [if_neg c7] at H
         exact absurd H (by simp)
     · rw [if_neg c6] at H
       exact absurd H (by simp)
   · rw [if_neg c4] at H
     exact absurd H (by simp)
 · rw [if_neg c3] at H
   exact absurd H (by simp)

/-! ### api_Timer_66: function 66 -/
def api_Timer_66.l0 : Nat → List (S88) → List (S88) → Int → Int → Option (Bool)
 | 0, _, _, _, _ => none
 | k + 1, x0, x1, x12, x13 => if x13 < x12 then (if 0 ≤ x13 then (if x13 < (x0.length : Int) then (if x13 < (x1.length : Int) then (if (!(((rd_T88 x0 x13).f0) == ((rd_T88 x1 x13).f0)) || (!(((rd_T88 x0 x13).f1) == ((rd_T88 x1 x13).f1)))) = true then (some false) else (api_Timer_66.l0 k x0 x1 x12 (wrap64 (x13 + 1)))) else (none)) else (none)) else (none)) else (some true)
def api_Timer_66.f (k : Nat) (l0 : List (S88)) (l1 : List (S88)) : Option (Bool) := if (l0.length : Int) = (l1.length : Int) then (api_Timer_66.l0 k l0 l1 (l0.length : Int) 0) else (some false)
theorem api_Timer_66.mono_l : ∀ k, (∀ y0 y1 y2 y3, LeO (api_Timer_66.l0 k y0 y1 y2 y3) (api_Timer_66.l0 (k + 1) y0 y1 y2 y3))
 | 0 => fun _ _ _ _ r h => by simp [api_Timer_66.l0] at h
 | k + 1 => by
  have ih0 := api_Timer_66.mono_l k
  · intro y0 y1 y2 y3
    unfold api_Timer_66.l0
    repeat' first
    | (with_reducible exact ih0 _ _ _ _)
    | (with_reducible exact LeO.refl _)
    | (with_reducible exact LeO.none _)
    | (with_reducible refine LeO.ite ?_ ?_)
    | (with_reducible refine LeO.bind ?_ (fun _ => ?_))
    | exact ih0 _ _ _ _
    | exact LeO.none _
    | refine LeO.ite ?_ ?_
    | refine LeO.bind ?_ (fun _ => ?_)
theorem api_Timer_66.mono : ∀ a0 a1 k, LeO (api_Timer_66.f k a0 a1) (api_Timer_66.f (k + 1) a0 a1) := by
 intro a0 a1 k
 have ih0 := api_Timer_66.mono_l k
 unfold api_Timer_66.f
 repeat' first
  | (with_reducible exact ih0 _ _ _ _)
  | (with_reducible exact LeO.refl _)
  | (with_reducible exact LeO.none _)
  | (with_reducible refine LeO.ite ?_ ?_)
  | (with_reducible refine LeO.bind ?_ (fun _ => ?_))
  | exact ih0 _ _ _ _
  | exact LeO.none _
  | refine LeO.ite ?_ ?_
  | refine LeO.bind ?_ (fun _ => ?_)
set_option maxHeartbeats 8000000 in
set_option maxRecDepth 100000 in
theorem api_Timer_66.calls (k : Nat) (A0 : Option Addr) (c0 : Nat) (l0 : List (S88)) (A1 : Option Addr) (c1 : Nat) (l1 : List (S88)) (r : Bool) (w : World) (hr0 : Kd.C k88 w A0 l0.length l0) (hc0 : l0.length ≤ c0) (hr1 : Kd.C k88 w A1 l1.length l1) (hc1 : l1.length ≤ c1) (h : api_Timer_66.f k l0 l1 = some r) :
 Calls Try.prog 66 #[.slice A0 l0.length c0, .slice A1 l1.length c1] w fun e w' => e = .returned (.bool r) ∧ Drawn0 w w' := by
 have hu88 := Try.underlying88
 have HR0 := Aside0.mk hr0
 have HC0 := Aside0.mk hc0
 clear hr0 hc0
 have HR1 := Aside0.mk hr1
 have HC1 := Aside0.mk hc1
 clear hr1 hc1
 have H : (if (l0.length : Int) = (l1.length : Int) then (api_Timer_66.l0 k l0 l1 (l0.length : Int) 0) else (some false)) = some r := h
 clear h
 by_cases c3 : (l0.length : Int) = (l1.length : Int)
 · rw [if_pos c3] at H
   have c3b0 : ((l0.length : Int) == (l1.length : Int)) = true := beq_iff_eq.mpr c3
   have c3b1 : ((l0.length : Int) != (l1.length : Int)) = false := bne_eq_false_iff_eq.mpr c3
   have c3b2 : (l0.length == l1.length) = true := by first | simpa using c3 | (simp at c3 ⊢; omega)
   clear c3
   have H' := Aside0.mk H
   clear H
   go_enter Try.func66, Try.ntmps66
   go_wp2
   repeat (go_quiet (fail); try go_wp2)
   go_loopg [13] k (fun kq v13 w' => ∃ (x13_1 : Int), v13 = .int .i64 x13_1 ∧ Aside0 (api_Timer_66.l0 kq l0 l1 (l0.length : Int) x13_1 = some r) ∧ Aside0 (kq ≤ k) ∧ Drawn0 w w')
   case atStart => exact ⟨(0), S_, H', ⟨Nat.le_refl _⟩, by repeat (first | exact Drawn0.refl _ | apply Drawn0.step)⟩
   case round =>
    clear H'
    try clear c1; try clear p2; try clear c3; try clear c3b0; try clear c3b1; try clear c3b2
    obtain ⟨x13_1, rfl, HA, HK1, ⟨m1, rfl⟩⟩ := hrel
    cases gk with
    | zero => exact absurd HA.out (by simp [api_Timer_66.l0])
    | succ k1 =>
     have H := HA.out
     clear HA
     simp only [api_Timer_66.l0] at H
     by_cases c4 : x13_1 < (l0.length : Int)
     · rw [if_pos c4] at H
       have c4b0 : decide (x13_1 < (l0.length : Int)) = true := decide_eq_true c4
       clear c4
       by_cases c5 : 0 ≤ x13_1
       · rw [if_pos c5] at H
         have c5b0 : decide (0 ≤ x13_1) = true := decide_eq_true c5
         clear c5
         by_cases c6 : x13_1 < (l0.length : Int)
         · rw [if_pos c6] at H
           have c6b0 : decide (x13_1 < (l0.length : Int)) = true := decide_eq_true c6
           clear c6
           by_cases c7 : x13_1 < (l1.length : Int)
           · rw [if_pos c7] at H
             have c7b0 : decide (x13_1 < (l1.length : Int)) = true := decide_eq_true c7
             clear c7
             by_cases c8 : (!(((rd_T88 l0 x13_1).f0) == ((rd_T88 l1 x13_1).f0)) || (!(((rd_T88 l0 x13_1).f1) == ((rd_T88 l1 x13_1).f1)))) = true
             · rw [if_pos c8] at H
               have c8b0 : (!(((rd_T88 l0 x13_1).f0) == ((rd_T88 l1 x13_1).f0)) || (!(((rd_T88 l0 x13_1).f1) == ((rd_T88 l1 x13_1).f1)))) = true := c8
               clear c8
               obtain rfl := Option.some.inj H
               have p284 : 0 ≤ (x13_1 : Int) := of_decide_eq_true As_
               have q284 : x13_1 < (l0.length : Int) := of_decide_eq_true As_
               obtain ⟨ad284, e284, hx284_0, hx284_1⟩ := at_T88 HR0.out x13_1 p284 q284
               cases e284
               replace p284 := eq_true p284
               replace q284 := eq_true q284
               have p285 : 0 ≤ (x13_1 : Int) := of_decide_eq_true As_
               have q285 : x13_1 < (l1.length : Int) := of_decide_eq_true As_
               obtain ⟨ad285, e285, hx285_0, hx285_1⟩ := at_T88 HR1.out x13_1 p285 q285
               cases e285
               replace p285 := eq_true p285
               replace q285 := eq_true q285
               go_wp2
               repeat (go_quiet (fail); try go_wp2)
               go_ret
               exact ⟨by first | rfl | (simp; done) | (simp [*]; done), by repeat (first | exact Drawn0.refl _ | apply Drawn0.step)⟩
             · rw [if_neg c8] at H
               have c8b0 : (!(((rd_T88 l0 x13_1).f0) == ((rd_T88 l1 x13_1).f0)) || (!(((rd_T88 l0 x13_1).f1) == ((rd_T88 l1 x13_1).f1)))) = false := by simpa using c8
               clear c8
               have H' := Aside0.mk H
               clear H
               have p284 : 0 ≤ (x13_1 : Int) := of_decide_eq_true As_
               have q284 : x13_1 < (l0.length : Int) := of_decide_eq_true As_
               obtain ⟨ad284, e284, hx284_0, hx284_1⟩ := at_T88 HR0.out x13_1 p284 q284
               cases e284
               replace p284 := eq_true p284
               replace q284 := eq_true q284
               have p285 : 0 ≤ (x13_1 : Int) := of_decide_eq_true As_
               have q285 : x13_1 < (l1.length : Int) := of_decide_eq_true As_
               obtain ⟨ad285, e285, hx285_0, hx285_1⟩ := at_T88 HR1.out x13_1 p285 q285
               cases e285
               replace p285 := eq_true p285
               replace q285 := eq_true q285
               go_wp2
               repeat (go_quiet (fail); try go_wp2)
               go_roundg k1
               case measure => have := HK1.out; omega
               case rel => exact ⟨(wrap64 (x13_1 + 1)), S_, H', ⟨by have := HK1.out; omega⟩, by repeat (first | exact Drawn0.refl _ | apply Drawn0.step)⟩
           · rw [if_neg c7] at H
             exact absurd H (by simp)
         · rw [if_neg c6] at H
           exact absurd H (by simp)
       · rw [if_neg c5] at H
         exact absurd H (by simp)
     · rw [if_neg c4] at H
       have c4b0 : decide (x13_1 < (l0.length : Int)) = false := decide_eq_false c4
       clear c4
       obtain rfl := Option.some.inj H
       go_wp2
       repeat (go_quiet (fail); try go_wp2)
       go_ret
       exact ⟨by first | rfl | (simp; done) | (simp [*]; done), by repeat (first | exact Drawn0.refl _ | apply Drawn0.step)⟩
 · rw [if_neg c3] at H
   have c3b0 : ((l0.length : Int) == (l1.length : Int)) = false := beq_eq_false_iff_ne.mpr c3
   have c3b1 : ((l0.length : Int) != (l1.length : Int)) = true := bne_iff_ne.mpr c3
   have c3b2 : (l0.length == l1.length) = false := by first | simpa using c3 | (simp at c3 ⊢; omega)
   obtain rfl := Option.some.inj H
   go_enter Try.func66, Try.ntmps66
   go_wp2
   repeat (go_quiet (fail); try go_wp2)
   go_ret
   exact ⟨by first | rfl | (simp; done) | (simp [*]; done), by repeat (first | exact Drawn0.refl _ | apply Drawn0.step)⟩

/-! ### wheel_Same: function 37 -/
def wheel_Same.f (k : Nat) (a0_0 : Int) (l0_1 : List (S88)) (a1_0 : Int) (l1_1 : List (S88)) : Option (Bool) := if a0_0 = a1_0 then ((api_Timer_66.f k l0_1 l1_1).bind fun t288 => (some t288)) else (some false)
theorem wheel_Same.mono : ∀ a0 a1 a2 a3 k, LeO (wheel_Same.f k a0 a1 a2 a3) (wheel_Same.f (k + 1) a0 a1 a2 a3) := by
 intro a0 a1 a2 a3 k
 unfold wheel_Same.f
 repeat' first
  | (with_reducible exact api_Timer_66.mono _ _ _)
  | (with_reducible exact LeO.refl _)
  | (with_reducible exact LeO.none _)
  | (with_reducible refine LeO.ite ?_ ?_)
  | (with_reducible refine LeO.bind ?_ (fun _ => ?_))
  | exact api_Timer_66.mono _ _ _
  | exact LeO.none _
  | refine LeO.ite ?_ ?_
  | refine LeO.bind ?_ (fun _ => ?_)
set_option maxHeartbeats 8000000 in
set_option maxRecDepth 100000 in
theorem wheel_Same.calls (k : Nat) (a0_0 : Int) (A0_1 : Option Addr) (c0_1 : Nat) (l0_1 : List (S88)) (a1_0 : Int) (A1_1 : Option Addr) (c1_1 : Nat) (l1_1 : List (S88)) (r : Bool) (w : World) (hr0_1 : Kd.C k88 w A0_1 l0_1.length l0_1) (hc0_1 : l0_1.length ≤ c0_1) (hr1_1 : Kd.C k88 w A1_1 l1_1.length l1_1) (hc1_1 : l1_1.length ≤ c1_1) (h : wheel_Same.f k a0_0 l0_1 a1_0 l1_1 = some r) :
 Calls Try.prog 37 #[.agg #[.int .i64 a0_0, .slice A0_1 l0_1.length c0_1], .agg #[.int .i64 a1_0, .slice A1_1 l1_1.length c1_1]] w fun e w' => e = .returned (.bool r) ∧ Below w.heap.size w w' := by
 have hu24 := Try.underlying24
 have HR0_1 := Aside0.mk hr0_1
 have HC0_1 := Aside0.mk hc0_1
 clear hr0_1 hc0_1
 have HR1_1 := Aside0.mk hr1_1
 have HC1_1 := Aside0.mk hc1_1
 clear hr1_1 hc1_1
 have HB := Aside0.mk (Below.refl w.heap.size w)
 have H : (if a0_0 = a1_0 then ((api_Timer_66.f k l0_1 l1_1).bind fun t288 => (some t288)) else (some false)) = some r := h
 clear h
 by_cases c3 : a0_0 = a1_0
 · rw [if_pos c3] at H
   have c3b0 : (a0_0 == a1_0) = true := beq_iff_eq.mpr c3
   have c3b1 : (a0_0 != a1_0) = false := bne_eq_false_iff_eq.mpr c3
   clear c3
   replace H := Option.bind_eq_some_iff.mp H
   obtain ⟨t288, A40, H⟩ := H
   replace H : (some t288) = some r := H
   have A4 := Aside0.mk A40
   clear A40
   obtain rfl := Option.some.inj H
   go_enter Try.func37, Try.ntmps37
   go_wp2_with (first | ((with_reducible refine gate_dst (N := 2) rfl ?_); refine box_ 2 24 #[.int .i64 a0_0, .slice A0_1 l0_1.length c0_1] ?_; intro gb286 hg w5 hbox hb; have BK286 := Aside0.mk (hbox); have GW286 := G_ hg HB; have GE286 := G_ hg HB; replace HB := Ls_ HB hb; clear hb hbox hg) | ((with_reducible refine gate_dst (N := 3) rfl ?_); refine box_ 3 24 #[.int .i64 a1_0, .slice A1_1 l1_1.length c1_1] ?_; intro gb287 hg w6 hbox hb; have BK287 := Aside0.mk (hbox); have GW287 := G_ hg HB; have GE287 := G_ hg HB; have NB286_287 := Nl_ hg BK286; have NB287_286 := Ng_ hg BK286; replace BK286 := Bb_ BK286 hb; replace HB := Ls_ HB hb; clear hb hbox hg; have hnb7 := NB286_287.out; have hnc7 := NB287_286.out; have hcz8_0 : w6.cell? ⟨gb286, 0, none⟩ = some (.int .i64 a0_0) := (blk_cell BK286.out 0).trans rfl; have hcz8_1 : w6.cell? ⟨gb286, 1, none⟩ = some (.slice A0_1 l0_1.length c0_1) := (blk_cell BK286.out 1).trans rfl; have hfz8_0 := blk_frozen BK286.out 0; have hfz8_1 := blk_frozen BK286.out 1; have hcz9_0 : w6.cell? ⟨gb287, 0, none⟩ = some (.int .i64 a1_0) := (blk_cell BK287.out 0).trans rfl; have hcz9_1 : w6.cell? ⟨gb287, 1, none⟩ = some (.slice A1_1 l1_1.length c1_1) := (blk_cell BK287.out 1).trans rfl; have hfz9_0 := blk_frozen BK287.out 0; have hfz9_1 := blk_frozen BK287.out 1) | (go_at_call 66; (with_reducible refine (api_Timer_66.calls k _ _ l0_1 _ _ l1_1 t288 _ ?side1 ?side2 ?side3 ?side4 A4.out).mono ?_); (case side1 => exact C_ HR0_1); (case side2 => exact HC0_1.out); (case side3 => exact C_ HR1_1); (case side4 => exact HC1_1.out); rintro e w' ⟨rfl, ⟨nd, rfl⟩⟩))
   go_ret
   exact ⟨E_, L_⟩
 · rw [if_neg c3] at H
   have c3b0 : (a0_0 == a1_0) = false := beq_eq_false_iff_ne.mpr c3
   have c3b1 : (a0_0 != a1_0) = true := bne_iff_ne.mpr c3
   obtain rfl := Option.some.inj H
   go_enter Try.func37, Try.ntmps37
   go_wp2_with (first | ((with_reducible refine gate_dst (N := 2) rfl ?_); refine box_ 2 24 #[.int .i64 a0_0, .slice A0_1 l0_1.length c0_1] ?_; intro gb286 hg w10 hbox hb; have BK286 := Aside0.mk (hbox); have GW286 := G_ hg HB; have GE286 := G_ hg HB; replace HB := Ls_ HB hb; clear hb hbox hg) | ((with_reducible refine gate_dst (N := 3) rfl ?_); refine box_ 3 24 #[.int .i64 a1_0, .slice A1_1 l1_1.length c1_1] ?_; intro gb287 hg w11 hbox hb; have BK287 := Aside0.mk (hbox); have GW287 := G_ hg HB; have GE287 := G_ hg HB; have NB286_287 := Nl_ hg BK286; have NB287_286 := Ng_ hg BK286; replace BK286 := Bb_ BK286 hb; replace HB := Ls_ HB hb; clear hb hbox hg; have hnb12 := NB286_287.out; have hnc12 := NB287_286.out; have hcz13_0 : w11.cell? ⟨gb286, 0, none⟩ = some (.int .i64 a0_0) := (blk_cell BK286.out 0).trans rfl; have hcz13_1 : w11.cell? ⟨gb286, 1, none⟩ = some (.slice A0_1 l0_1.length c0_1) := (blk_cell BK286.out 1).trans rfl; have hfz13_0 := blk_frozen BK286.out 0; have hfz13_1 := blk_frozen BK286.out 1; have hcz14_0 : w11.cell? ⟨gb287, 0, none⟩ = some (.int .i64 a1_0) := (blk_cell BK287.out 0).trans rfl; have hcz14_1 : w11.cell? ⟨gb287, 1, none⟩ = some (.slice A1_1 l1_1.length c1_1) := (blk_cell BK287.out 1).trans rfl; have hfz14_0 := blk_frozen BK287.out 0; have hfz14_1 := blk_frozen BK287.out 1))
   go_ret
   exact ⟨E_, L_⟩

/-! ### api_Alarm: function 38 -/
def api_Alarm.l0 : Nat → List (S47) → List (S47) → Int → Int → Option (Bool)
 | 0, _, _, _, _ => none
 | k + 1, x0, x1, x12, x13 => if x13 < x12 then (if 0 ≤ x13 then (if x13 < (x0.length : Int) then (if x13 < (x1.length : Int) then (if (!(((rd_T47 x0 x13).f0) == ((rd_T47 x1 x13).f0)) || (!(((rd_T47 x0 x13).f1) == ((rd_T47 x1 x13).f1)) || (!(((rd_T47 x0 x13).f2) == ((rd_T47 x1 x13).f2))))) = true then (some false) else (api_Alarm.l0 k x0 x1 x12 (wrap64 (x13 + 1)))) else (none)) else (none)) else (none)) else (some true)
def api_Alarm.f (k : Nat) (l0 : List (S47)) (l1 : List (S47)) : Option (Bool) := if (l0.length : Int) = (l1.length : Int) then (api_Alarm.l0 k l0 l1 (l0.length : Int) 0) else (some false)
theorem api_Alarm.mono_l : ∀ k, (∀ y0 y1 y2 y3, LeO (api_Alarm.l0 k y0 y1 y2 y3) (api_Alarm.l0 (k + 1) y0 y1 y2 y3))
 | 0 => fun _ _ _ _ r h => by simp [api_Alarm.l0] at h
 | k + 1 => by
  have ih0 := api_Alarm.mono_l k
  · intro y0 y1 y2 y3
    unfold api_Alarm.l0
    repeat' first
    | (with_reducible exact ih0 _ _ _ _)
    | (with_reducible exact LeO.refl _)
    | (with_reducible exact LeO.none _)
    | (with_reducible refine LeO.ite ?_ ?_)
    | (with_reducible refine LeO.bind ?_ (fun _ => ?_))
    | exact ih0 _ _ _ _
    | exact LeO.none _
    | refine LeO.ite ?_ ?_
    | refine LeO.bind ?_ (fun _ => ?_)
theorem api_Alarm.mono : ∀ a0 a1 k, LeO (api_Alarm.f k a0 a1) (api_Alarm.f (k + 1) a0 a1) := by
 intro a0 a1 k
 have ih0 := api_Alarm.mono_l k
 unfold api_Alarm.f
 repeat' first
  | (with_reducible exact ih0 _ _ _ _)
  | (with_reducible exact LeO.refl _)
  | (with_reducible exact LeO.none _)
  | (with_reducible refine LeO.ite ?_ ?_)
  | (with_reducible refine LeO.bind ?_ (fun _ => ?_))
  | exact ih0 _ _ _ _
  | exact LeO.none _
  | refine LeO.ite ?_ ?_
  | refine LeO.bind ?_ (fun _ => ?_)
set_option maxHeartbeats 8000000 in
set_option maxRecDepth 100000 in
theorem api_Alarm.calls (k : Nat) (A0 : Option Addr) (c0 : Nat) (l0 : List (S47)) (A1 : Option Addr) (c1 : Nat) (l1 : List (S47)) (r : Bool) (w : World) (hr0 : Kd.C k47 w A0 l0.length l0) (hc0 : l0.length ≤ c0) (hr1 : Kd.C k47 w A1 l1.length l1) (hc1 : l1.length ≤ c1) (h : api_Alarm.f k l0 l1 = some r) :
 Calls Try.prog 38 #[.slice A0 l0.length c0, .slice A1 l1.length c1] w fun e w' => e = .returned (.bool r) ∧ Drawn0 w w' := by
 have hu47 := Try.underlying47
 have HR0 := Aside0.mk hr0
 have HC0 := Aside0.mk hc0
 clear hr0 hc0
 have HR1 := Aside0.mk hr1
 have HC1 := Aside0.mk hc1
 clear hr1 hc1
 have H : (if (l0.length : Int) = (l1.length : Int) then (api_Alarm.l0 k l0 l1 (l0.length : Int) 0) else (some false)) = some r := h
 clear h
 by_cases c3 : (l0.length : Int) = (l1.length : Int)
 · rw [if_pos c3] at H
   have c3b0 : ((l0.length : Int) == (l1.length : Int)) = true := beq_iff_eq.mpr c3
   have c3b1 : ((l0.length : Int) != (l1.length : Int)) = false := bne_eq_false_iff_eq.mpr c3
   have c3b2 : (l0.length == l1.length) = true := by first | simpa using c3 | (simp at c3 ⊢; omega)
   clear c3
   have H' := Aside0.mk H
   clear H
   go_enter Try.func38, Try.ntmps38
   go_wp2
   repeat (go_quiet (fail); try go_wp2)
   go_loopg [13] k (fun kq v13 w' => ∃ (x13_1 : Int), v13 = .int .i64 x13_1 ∧ Aside0 (api_Alarm.l0 kq l0 l1 (l0.length : Int) x13_1 = some r) ∧ Aside0 (kq ≤ k) ∧ Drawn0 w w')
   case atStart => exact ⟨(0), S_, H', ⟨Nat.le_refl _⟩, by repeat (first | exact Drawn0.refl _ | apply Drawn0.step)⟩
   case round =>
    clear H'
    try clear c1; try clear p2; try clear c3; try clear c3b0; try clear c3b1; try clear c3b2
    obtain ⟨x13_1, rfl, HA, HK1, ⟨m1, rfl⟩⟩ := hrel
    cases gk with
    | zero => exact absurd HA.out (by simp [api_Alarm.l0])
    | succ k1 =>
     have H := HA.out
     clear HA
     simp only [api_Alarm.l0] at H
     by_cases c4 : x13_1 < (l0.length : Int)
     · rw [if_pos c4] at H
       have c4b0 : decide (x13_1 < (l0.length : Int)) = true := decide_eq_true c4
       clear c4
       by_cases c5 : 0 ≤ x13_1
       · rw [if_pos c5] at H
         have c5b0 : decide (0 ≤ x13_1) = true := decide_eq_true c5
         clear c5
         by_cases c6 : x13_1 < (l0.length : Int)
         · rw [if_pos c6] at H
           have c6b0 : decide (x13_1 < (l0.length : Int)) = true := decide_eq_true c6
           clear c6
           by_cases c7 : x13_1 < (l1.length : Int)
           · rw [if_pos c7] at H
             have c7b0 : decide (x13_1 < (l1.length : Int)) = true := decide_eq_true c7
             clear c7
             by_cases c8 : (!(((rd_T47 l0 x13_1).f0) == ((rd_T47 l1 x13_1).f0)) || (!(((rd_T47 l0 x13_1).f1) == ((rd_T47 l1 x13_1).f1)) || (!(((rd_T47 l0 x13_1).f2) == ((rd_T47 l1 x13_1).f2))))) = true
             · rw [if_pos c8] at H
               have c8b0 : (!(((rd_T47 l0 x13_1).f0) == ((rd_T47 l1 x13_1).f0)) || (!(((rd_T47 l0 x13_1).f1) == ((rd_T47 l1 x13_1).f1)) || (!(((rd_T47 l0 x13_1).f2) == ((rd_T47 l1 x13_1).f2))))) = true := c8
               clear c8
               obtain rfl := Option.some.inj H
               have p289 : 0 ≤ (x13_1 : Int) := of_decide_eq_true As_
               have q289 : x13_1 < (l0.length : Int) := of_decide_eq_true As_
               obtain ⟨ad289, e289, hx289_0, hx289_1, hx289_2⟩ := at_T47 HR0.out x13_1 p289 q289
               cases e289
               replace p289 := eq_true p289
               replace q289 := eq_true q289
               have p290 : 0 ≤ (x13_1 : Int) := of_decide_eq_true As_
               have q290 : x13_1 < (l1.length : Int) := of_decide_eq_true As_
               obtain ⟨ad290, e290, hx290_0, hx290_1, hx290_2⟩ := at_T47 HR1.out x13_1 p290 q290
               cases e290
               replace p290 := eq_true p290
               replace q290 := eq_true q290
               go_wp2
               repeat (go_quiet (fail); try go_wp2)
               go_ret
               exact ⟨by first | rfl | (simp; done) | (simp [*]; done), by repeat (first | exact Drawn0.refl _ | apply Drawn0.step)⟩
             · rw [if_neg c8] at H
               have c8b0 : (!(((rd_T47 l0 x13_1).f0) == ((rd_T47 l1 x13_1).f0)) || (!(((rd_T47 l0 x13_1).f1) == ((rd_T47 l1 x13_1).f1)) || (!(((rd_T47 l0 x13_1).f2) == ((rd_T47 l1 x13_1).f2))))) = false := by simpa using c8
               clear c8
               have H' := Aside0.mk H
               clear H
               have p289 : 0 ≤ (x13_1 : Int) := of_decide_eq_true As_
               have q289 : x13_1 < (l0.length : Int) := of_decide_eq_true As_
               obtain ⟨ad289, e289, hx289_0, hx289_1, hx289_2⟩ := at_T47 HR0.out x13_1 p289 q289
               cases e289
               replace p289 := eq_true p289
               replace q289 := eq_true q289
               have p290 : 0 ≤ (x13_1 : Int) := of_decide_eq_true As_
               have q290 : x13_1 < (l1.length : Int) := of_decide_eq_true As_
               obtain ⟨ad290, e290, hx290_0, hx290_1, hx290_2⟩ := at_T47 HR1.out x13_1 p290 q290
               cases e290
               replace p290 := eq_true p290
               replace q290 := eq_true q290
               go_wp2
               repeat (go_quiet (fail); try go_wp2)
               go_roundg k1
               case measure => have := HK1.out; omega
               case rel => exact ⟨(wrap64 (x13_1 + 1)), S_, H', ⟨by have := HK1.out; omega⟩, by repeat (first | exact Drawn0.refl _ | apply Drawn0.step)⟩
           · rw [if_neg c7] at H
             exact absurd H (by simp)
         · rw [if_neg c6] at H
           exact absurd H (by simp)
       · rw [if_neg c5] at H
         exact absurd H (by simp)
     · rw [if_neg c4] at H
       have c4b0 : decide (x13_1 < (l0.length : Int)) = false := decide_eq_false c4
       clear c4
       obtain rfl := Option.some.inj H
       go_wp2
       repeat (go_quiet (fail); try go_wp2)
       go_ret
       exact ⟨by first | rfl | (simp; done) | (simp [*]; done), by repeat (first | exact Drawn0.refl _ | apply Drawn0.step)⟩
 · rw [if_neg c3] at H
   have c3b0 : ((l0.length : Int) == (l1.length : Int)) = false := beq_eq_false_iff_ne.mpr c3
   have c3b1 : ((l0.length : Int) != (l1.length : Int)) = true := bne_iff_ne.mpr c3
   have c3b2 : (l0.length == l1.length) = false := by first | simpa using c3 | (simp at c3 ⊢; omega)
   obtain rfl := Option.some.inj H
   go_enter Try.func38, Try.ntmps38
   go_wp2
   repeat (go_quiet (fail); try go_wp2)
   go_ret
   exact ⟨by first | rfl | (simp; done) | (simp [*]; done), by repeat (first | exact Drawn0.refl _ | apply Drawn0.step)⟩

/-! ### vtimer_Same: function 11 -/
def vtimer_Same.f (k : Nat) (a0_0 : Int) (l0_1 : List (S88)) (l0_2 : List (S47)) (a1_0 : Int) (l1_1 : List (S88)) (l1_2 : List (S47)) : Option (Bool) := (wheel_Same.f k a0_0 l0_1 a1_0 l1_1).bind fun t293 => (if t293 = true then ((api_Alarm.f k l0_2 l1_2).bind fun t294 => (some t294)) else (some false))
theorem vtimer_Same.mono : ∀ a0 a1 a2 a3 a4 a5 k, LeO (vtimer_Same.f k a0 a1 a2 a3 a4 a5) (vtimer_Same.f (k + 1) a0 a1 a2 a3 a4 a5) := by
 intro a0 a1 a2 a3 a4 a5 k
 unfold vtimer_Same.f
 repeat' first
  | (with_reducible exact api_Alarm.mono _ _ _)
  | (with_reducible exact wheel_Same.mono _ _ _ _ _)
  | (with_reducible exact LeO.refl _)
  | (with_reducible exact LeO.none _)
  | (with_reducible refine LeO.ite ?_ ?_)
  | (with_reducible refine LeO.bind ?_ (fun _ => ?_))
  | exact api_Alarm.mono _ _ _
  | exact wheel_Same.mono _ _ _ _ _
  | exact LeO.none _
  | refine LeO.ite ?_ ?_
  | refine LeO.bind ?_ (fun _ => ?_)
set_option maxHeartbeats 8000000 in
set_option maxRecDepth 100000 in
theorem vtimer_Same.calls (k : Nat) (a0_0 : Int) (A0_1 : Option Addr) (c0_1 : Nat) (l0_1 : List (S88)) (A0_2 : Option Addr) (c0_2 : Nat) (l0_2 : List (S47)) (a1_0 : Int) (A1_1 : Option Addr) (c1_1 : Nat) (l1_1 : List (S88)) (A1_2 : Option Addr) (c1_2 : Nat) (l1_2 : List (S47)) (r : Bool) (w : World) (hr0_1 : Kd.C k88 w A0_1 l0_1.length l0_1) (hc0_1 : l0_1.length ≤ c0_1) (hr0_2 : Kd.C k47 w A0_2 l0_2.length l0_2) (hc0_2 : l0_2.length ≤ c0_2) (hr1_1 : Kd.C k88 w A1_1 l1_1.length l1_1) (hc1_1 : l1_1.length ≤ c1_1) (hr1_2 : Kd.C k47 w A1_2 l1_2.length l1_2) (hc1_2 : l1_2.length ≤ c1_2) (h : vtimer_Same.f k a0_0 l0_1 l0_2 a1_0 l1_1 l1_2 = some r) :
 Calls Try.prog 11 #[.agg #[.int .i64 a0_0, .slice A0_1 l0_1.length c0_1, .slice A0_2 l0_2.length c0_2], .agg #[.int .i64 a1_0, .slice A1_1 l1_1.length c1_1, .slice A1_2 l1_2.length c1_2]] w fun e w' => e = .returned (.bool r) ∧ Below w.heap.size w w' := by
 have hu27 := Try.underlying27
 have hu24 := Try.underlying24
 have HR0_1 := Aside0.mk hr0_1
 have HC0_1 := Aside0.mk hc0_1
 clear hr0_1 hc0_1
 have HR0_2 := Aside0.mk hr0_2
 have HC0_2 := Aside0.mk hc0_2
 clear hr0_2 hc0_2
 have HR1_1 := Aside0.mk hr1_1
 have HC1_1 := Aside0.mk hc1_1
 clear hr1_1 hc1_1
 have HR1_2 := Aside0.mk hr1_2
 have HC1_2 := Aside0.mk hc1_2
 clear hr1_2 hc1_2
 have HB := Aside0.mk (Below.refl w.heap.size w)
 have H : ((wheel_Same.f k a0_0 l0_1 a1_0 l1_1).bind fun t293 => (if t293 = true then ((api_Alarm.f k l0_2 l1_2).bind fun t294 => (some t294)) else (some false))) = some r := h
 clear h
 replace H := Option.bind_eq_some_iff.mp H
 obtain ⟨t293, A30, H⟩ := H
 replace H : (if t293 = true then ((api_Alarm.f k l0_2 l1_2).bind fun t294 => (some t294)) else (some false)) = some r := H
 have A3 := Aside0.mk A30
 clear A30
 by_cases c4 : t293 = true
 · subst c4
   have H1 : ((api_Alarm.f k l0_2 l1_2).bind fun t294 => (some t294)) = some r := by rw [if_pos rfl] at H; exact H
   clear H
   have H := H1
   clear H1
   replace H := Option.bind_eq_some_iff.mp H
   obtain ⟨t294, A50, H⟩ := H
   replace H : (some t294) = some r := H
   have A5 := Aside0.mk A50
   clear A50
   obtain rfl := Option.some.inj H
   go_enter Try.func11, Try.ntmps11
   go_wp2_with (first | ((with_reducible refine gate_dst (N := 2) rfl ?_); refine box_ 2 27 #[.int .i64 a0_0, .slice A0_1 l0_1.length c0_1, .slice A0_2 l0_2.length c0_2] ?_; intro gb291 hg w6 hbox hb; have BK291 := Aside0.mk (hbox); have GW291 := G_ hg HB; have GE291 := G_ hg HB; replace HB := Ls_ HB hb; clear hb hbox hg) | ((with_reducible refine gate_dst (N := 3) rfl ?_); refine box_ 3 27 #[.int .i64 a1_0, .slice A1_1 l1_1.length c1_1, .slice A1_2 l1_2.length c1_2] ?_; intro gb292 hg w7 hbox hb; have BK292 := Aside0.mk (hbox); have GW292 := G_ hg HB; have GE292 := G_ hg HB; have NB291_292 := Nl_ hg BK291; have NB292_291 := Ng_ hg BK291; replace BK291 := Bb_ BK291 hb; replace HB := Ls_ HB hb; clear hb hbox hg; have hnb8 := NB291_292.out; have hnc8 := NB292_291.out; have hcz9_0 : w7.cell? ⟨gb291, 0, none⟩ = some (.int .i64 a0_0) := (blk_cell BK291.out 0).trans rfl; have hcz9_1 : w7.cell? ⟨gb291, 1, none⟩ = some (.slice A0_1 l0_1.length c0_1) := (blk_cell BK291.out 1).trans rfl; have hcz9_2 : w7.cell? ⟨gb291, 2, none⟩ = some (.slice A0_2 l0_2.length c0_2) := (blk_cell BK291.out 2).trans rfl; have hfz9_0 := blk_frozen BK291.out 0; have hfz9_1 := blk_frozen BK291.out 1; have hfz9_2 := blk_frozen BK291.out 2; have hcz10_0 : w7.cell? ⟨gb292, 0, none⟩ = some (.int .i64 a1_0) := (blk_cell BK292.out 0).trans rfl; have hcz10_1 : w7.cell? ⟨gb292, 1, none⟩ = some (.slice A1_1 l1_1.length c1_1) := (blk_cell BK292.out 1).trans rfl; have hcz10_2 : w7.cell? ⟨gb292, 2, none⟩ = some (.slice A1_2 l1_2.length c1_2) := (blk_cell BK292.out 2).trans rfl; have hfz10_0 := blk_frozen BK292.out 0; have hfz10_1 := blk_frozen BK292.out 1; have hfz10_2 := blk_frozen BK292.out 2) | ((with_reducible refine gate_callee (f := 37) rfl ?_); refine goesL_ (some 9) rfl rfl Try.func37 (by kernel_rfl) rfl #[.agg #[.int .i64 a0_0, .slice A0_1 l0_1.length c0_1], .agg #[.int .i64 a1_0, .slice A1_1 l1_1.length c1_1]] rfl M_ ?_; (with_reducible refine (wheel_Same.calls k a0_0 _ _ l0_1 a1_0 _ _ l1_1 true _ ?side1 ?side2 ?side3 ?side4 A3.out).mono ?_); (case side1 => exact C_ HR0_1); (case side2 => exact HC0_1.out); (case side3 => exact C_ HR1_1); (case side4 => exact HC1_1.out); rintro e w11 ⟨rfl, hb⟩; refine ⟨_, rfl, ?_⟩; replace BK291 := Bb_ BK291 hb; replace BK292 := Bb_ BK292 hb; replace HB := Ls_ HB hb; (try clear hb); (try clear hb2); (try clear hk); (try clear hi); have hcz12_0 : w11.cell? ⟨gb291, 0, none⟩ = some (.int .i64 a0_0) := (blk_cell BK291.out 0).trans rfl; have hcz12_1 : w11.cell? ⟨gb291, 1, none⟩ = some (.slice A0_1 l0_1.length c0_1) := (blk_cell BK291.out 1).trans rfl; have hcz12_2 : w11.cell? ⟨gb291, 2, none⟩ = some (.slice A0_2 l0_2.length c0_2) := (blk_cell BK291.out 2).trans rfl; have hfz12_0 := blk_frozen BK291.out 0; have hfz12_1 := blk_frozen BK291.out 1; have hfz12_2 := blk_frozen BK291.out 2; have hcz13_0 : w11.cell? ⟨gb292, 0, none⟩ = some (.int .i64 a1_0) := (blk_cell BK292.out 0).trans rfl; have hcz13_1 : w11.cell? ⟨gb292, 1, none⟩ = some (.slice A1_1 l1_1.length c1_1) := (blk_cell BK292.out 1).trans rfl; have hcz13_2 : w11.cell? ⟨gb292, 2, none⟩ = some (.slice A1_2 l1_2.length c1_2) := (blk_cell BK292.out 2).trans rfl; have hfz13_0 := blk_frozen BK292.out 0; have hfz13_1 := blk_frozen BK292.out 1; have hfz13_2 := blk_frozen BK292.out 2) | (go_at_call 38; (with_reducible refine (api_Alarm.calls k _ _ l0_2 _ _ l1_2 t294 _ ?side1 ?side2 ?side3 ?side4 A5.out).mono ?_); (case side1 => exact C_ HR0_2); (case side2 => exact HC0_2.out); (case side3 => exact C_ HR1_2); (case side4 => exact HC1_2.out); rintro e w' ⟨rfl, ⟨nd, rfl⟩⟩))
   go_ret
   exact ⟨E_, L_⟩
 · replace c4 := Bool.eq_false_iff.mpr c4
   subst c4
   have H1 : (some false) = some r := by rw [if_neg (show ¬ (false = true) by decide)] at H; exact H
   clear H
   have H := H1
   clear H1
   obtain rfl := Option.some.inj H
   go_enter Try.func11, Try.ntmps11
   go_wp2_with (first | ((with_reducible refine gate_dst (N := 2) rfl ?_); refine box_ 2 27 #[.int .i64 a0_0, .slice A0_1 l0_1.length c0_1, .slice A0_2 l0_2.length c0_2] ?_; intro gb291 hg w14 hbox hb; have BK291 := Aside0.mk (hbox); have GW291 := G_ hg HB; have GE291 := G_ hg HB; replace HB := Ls_ HB hb; clear hb hbox hg) | ((with_reducible refine gate_dst (N := 3) rfl ?_); refine box_ 3 27 #[.int .i64 a1_0, .slice A1_1 l1_1.length c1_1, .slice A1_2 l1_2.length c1_2] ?_; intro gb292 hg w15 hbox hb; have BK292 := Aside0.mk (hbox); have GW292 := G_ hg HB; have GE292 := G_ hg HB; have NB291_292 := Nl_ hg BK291; have NB292_291 := Ng_ hg BK291; replace BK291 := Bb_ BK291 hb; replace HB := Ls_ HB hb; clear hb hbox hg; have hnb16 := NB291_292.out; have hnc16 := NB292_291.out; have hcz17_0 : w15.cell? ⟨gb291, 0, none⟩ = some (.int .i64 a0_0) := (blk_cell BK291.out 0).trans rfl; have hcz17_1 : w15.cell? ⟨gb291, 1, none⟩ = some (.slice A0_1 l0_1.length c0_1) := (blk_cell BK291.out 1).trans rfl; have hcz17_2 : w15.cell? ⟨gb291, 2, none⟩ = some (.slice A0_2 l0_2.length c0_2) := (blk_cell BK291.out 2).trans rfl; have hfz17_0 := blk_frozen BK291.out 0; have hfz17_1 := blk_frozen BK291.out 1; have hfz17_2 := blk_frozen BK291.out 2; have hcz18_0 : w15.cell? ⟨gb292, 0, none⟩ = some (.int .i64 a1_0) := (blk_cell BK292.out 0).trans rfl; have hcz18_1 : w15.cell? ⟨gb292, 1, none⟩ = some (.slice A1_1 l1_1.length c1_1) := (blk_cell BK292.out 1).trans rfl; have hcz18_2 : w15.cell? ⟨gb292, 2, none⟩ = some (.slice A1_2 l1_2.length c1_2) := (blk_cell BK292.out 2).trans rfl; have hfz18_0 := blk_frozen BK292.out 0; have hfz18_1 := blk_frozen BK292.out 1; have hfz18_2 := blk_frozen BK292.out 2) | ((with_reducible refine gate_callee (f := 37) rfl ?_); refine goesL_ (some 9) rfl rfl Try.func37 (by kernel_rfl) rfl #[.agg #[.int .i64 a0_0, .slice A0_1 l0_1.length c0_1], .agg #[.int .i64 a1_0, .slice A1_1 l1_1.length c1_1]] rfl M_ ?_; (with_reducible refine (wheel_Same.calls k a0_0 _ _ l0_1 a1_0 _ _ l1_1 false _ ?side1 ?side2 ?side3 ?side4 A3.out).mono ?_); (case side1 => exact C_ HR0_1); (case side2 => exact HC0_1.out); (case side3 => exact C_ HR1_1); (case side4 => exact HC1_1.out); rintro e w19 ⟨rfl, hb⟩; refine ⟨_, rfl, ?_⟩; replace BK291 := Bb_ BK291 hb; replace BK292 := Bb_ BK292 hb; replace HB := Ls_ HB hb; (try clear hb); (try clear hb2); (try clear hk); (try clear hi)))
   go_ret
   exact ⟨E_, L_⟩

end Go.Proofs.Ytlddekjlmkimnaa.C
