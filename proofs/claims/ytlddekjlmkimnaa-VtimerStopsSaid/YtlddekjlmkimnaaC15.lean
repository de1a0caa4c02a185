import Derived.Test.YtlddekjlmkimnaaJ5
import Derived.Test.YtlddekjlmkimnaaJ6
-- Written by a program of this session (wip/tools/stub.py, over the kit's print) and by hand; not the kit's print.
namespace Go.Proofs.Ytlddekjlmkimnaa.C
open Go.RowKit Go.Proofs.YtlddekjlmkimnaaW.PrintWords Go.Proofs.YtlddekjlmkimnaaW.PrintLast Go.Proofs.YtlddekjlmkimnaaW.PrintMore
attribute [local go_sem] max2_int min2_int max_two min_two max_three min_three max_four min_four   -- for this text's walks alone
set_option linter.unusedVariables false
set_option linter.unusedSimpArgs false

/-! ### vtimer_vcpu: function 40 -/
def vtimer_vcpu.f (a0 : Int) : Option (Bool) := if a0 ≥ 1 then (some (decide (a0 ≤ 16))) else (some false)
set_option maxHeartbeats 8000000 in
set_option maxRecDepth 100000 in
theorem vtimer_vcpu.calls (a0 : Int) (r : Bool) (w : World) (h : vtimer_vcpu.f a0 = some r) :
 Calls Try.prog 40 #[.int .i64 a0] w fun e w' => e = .returned (.bool r) ∧ Drawn0 w w' := by
 have H : (if a0 ≥ 1 then (some (decide (a0 ≤ 16))) else (some false)) = some r := h
 clear h
 by_cases c2 : a0 ≥ 1
 · rw [if_pos c2] at H
   have c2b0 : decide (1 ≤ a0) = true := decide_eq_true c2
   clear c2
   obtain rfl := Option.some.inj H
   go_enter Try.func40, Try.ntmps40
   go_wp2
   go_ret
   exact ⟨by first | rfl | (simp; done) | (simp [*]; done), by repeat (first | exact Drawn0.refl _ | apply Drawn0.step)⟩
 · rw [if_neg c2] at H
   have c2b0 : decide (1 ≤ a0) = false := decide_eq_false c2
   clear c2
   obtain rfl := Option.some.inj H
   go_enter Try.func40, Try.ntmps40
   go_wp2
   go_ret
   exact ⟨by first | rfl | (simp; done) | (simp [*]; done), by repeat (first | exact Drawn0.refl _ | apply Drawn0.step)⟩

/-! ### vtimer_alarm: function 27 -/
def vtimer_alarm.f (a0_0 : Int) (a0_1 : Int) (a0_2 : Int) : Option (Bool) := if a0_2 = 0 then ((vtimer_vcpu.f a0_0).bind fun t203 => (if t203 = true then (if a0_1 ≥ 1 then (if a0_1 ≤ 32 then (some true) else (some false)) else (some false)) else (some false))) else (if a0_2 ≥ 1000 then ((vtimer_vcpu.f a0_0).bind fun t204 => (if t204 = true then (if a0_1 ≥ 1 then (if a0_1 ≤ 32 then (some (decide (a0_2 ≤ 1125899906842624))) else (some false)) else (some false)) else (some false))) else ((vtimer_vcpu.f a0_0).bind fun t205 => (if t205 = true then (if a0_1 ≥ 1 then (if a0_1 ≤ 32 then (some false) else (some false)) else (some false)) else (some false))))
set_option maxHeartbeats 8000000 in
set_option maxRecDepth 100000 in
theorem vtimer_alarm.calls (a0_0 : Int) (a0_1 : Int) (a0_2 : Int) (r : Bool) (w : World) (h : vtimer_alarm.f a0_0 a0_1 a0_2 = some r) :
 Calls Try.prog 27 #[.agg #[.int .i64 a0_0, .int .i64 a0_1, .int .i64 a0_2]] w fun e w' => e = .returned (.bool r) ∧ Below w.heap.size w w' := by
 have hu47 := Try.underlying47
 have HB := Aside0.mk (Below.refl w.heap.size w)
 have H : (if a0_2 = 0 then ((vtimer_vcpu.f a0_0).bind fun t203 => (if t203 = true then (if a0_1 ≥ 1 then (if a0_1 ≤ 32 then (some true) else (some false)) else (some false)) else (some false))) else (if a0_2 ≥ 1000 then ((vtimer_vcpu.f a0_0).bind fun t204 => (if t204 = true then (if a0_1 ≥ 1 then (if a0_1 ≤ 32 then (some (decide (a0_2 ≤ 1125899906842624))) else (some false)) else (some false)) else (some false))) else ((vtimer_vcpu.f a0_0).bind fun t205 => (if t205 = true then (if a0_1 ≥ 1 then (if a0_1 ≤ 32 then (some false) else (some false)) else (some false)) else (some false))))) = some r := h
 clear h
 by_cases c2 : a0_2 = 0
 · rw [if_pos c2] at H
   have c2b0 : (a0_2 == 0) = true := beq_iff_eq.mpr c2
   have c2b1 : (a0_2 != 0) = false := bne_eq_false_iff_eq.mpr c2
   clear c2
   replace H := Option.bind_eq_some_iff.mp H
   obtain ⟨t203, A30, H⟩ := H
   replace H : (if t203 = true then (if a0_1 ≥ 1 then (if a0_1 ≤ 32 then (some true) else (some false)) else (some false)) else (some false)) = some r := H
   have A3 := Aside0.mk A30
   clear A30
   by_cases c4 : t203 = true
   · subst c4
     have H1 : (if a0_1 ≥ 1 then (if a0_1 ≤ 32 then (some true) else (some false)) else (some false)) = some r := by rw [if_pos rfl] at H; exact H
     clear H
     have H := H1
     clear H1
     by_cases c5 : a0_1 ≥ 1
     · rw [if_pos c5] at H
       have c5b0 : decide (1 ≤ a0_1) = true := decide_eq_true c5
       clear c5
       by_cases c6 : a0_1 ≤ 32
       · rw [if_pos c6] at H
         have c6b0 : decide (a0_1 ≤ 32) = true := decide_eq_true c6
         clear c6
         obtain rfl := Option.some.inj H
         go_enter Try.func27, Try.ntmps27
         go_wp2_with (first | ((with_reducible refine gate_dst (N := 1) rfl ?_); refine box_ 1 47 #[.int .i64 a0_0, .int .i64 a0_1, .int .i64 a0_2] ?_; intro gb202 hg w7 hbox hb; have BK202 := Aside0.mk (hbox); have GW202 := G_ hg HB; have GE202 := G_ hg HB; replace HB := Ls_ HB hb; clear hb hbox hg; have hcz8_0 : w7.cell? ⟨gb202, 0, none⟩ = some (.int .i64 a0_0) := (blk_cell BK202.out 0).trans rfl; have hcz8_1 : w7.cell? ⟨gb202, 1, none⟩ = some (.int .i64 a0_1) := (blk_cell BK202.out 1).trans rfl; have hcz8_2 : w7.cell? ⟨gb202, 2, none⟩ = some (.int .i64 a0_2) := (blk_cell BK202.out 2).trans rfl; have hfz8_0 := blk_frozen BK202.out 0; have hfz8_1 := blk_frozen BK202.out 1; have hfz8_2 := blk_frozen BK202.out 2) | ((with_reducible refine gate_callee (f := 40) rfl ?_); refine goesL_ (some 19) rfl rfl Try.func40 (by kernel_rfl) rfl #[.int .i64 a0_0] rfl M_ ?_; (with_reducible refine (vtimer_vcpu.calls a0_0 true _ A3.out).mono ?_); rintro e w' ⟨rfl, ⟨nd, rfl⟩⟩; refine ⟨_, rfl, ?_⟩))
         go_ret
         exact ⟨E_, L_⟩
       · rw [if_neg c6] at H
         have c6b0 : decide (a0_1 ≤ 32) = false := decide_eq_false c6
         clear c6
         obtain rfl := Option.some.inj H
         go_enter Try.func27, Try.ntmps27
         go_wp2_with (first | ((with_reducible refine gate_dst (N := 1) rfl ?_); refine box_ 1 47 #[.int .i64 a0_0, .int .i64 a0_1, .int .i64 a0_2] ?_; intro gb202 hg w9 hbox hb; have BK202 := Aside0.mk (hbox); have GW202 := G_ hg HB; have GE202 := G_ hg HB; replace HB := Ls_ HB hb; clear hb hbox hg; have hcz10_0 : w9.cell? ⟨gb202, 0, none⟩ = some (.int .i64 a0_0) := (blk_cell BK202.out 0).trans rfl; have hcz10_1 : w9.cell? ⟨gb202, 1, none⟩ = some (.int .i64 a0_1) := (blk_cell BK202.out 1).trans rfl; have hcz10_2 : w9.cell? ⟨gb202, 2, none⟩ = some (.int .i64 a0_2) := (blk_cell BK202.out 2).trans rfl; have hfz10_0 := blk_frozen BK202.out 0; have hfz10_1 := blk_frozen BK202.out 1; have hfz10_2 := blk_frozen BK202.out 2) | ((with_reducible refine gate_callee (f := 40) rfl ?_); refine goesL_ (some 19) rfl rfl Try.func40 (by kernel_rfl) rfl #[.int .i64 a0_0] rfl M_ ?_; (with_reducible refine (vtimer_vcpu.calls a0_0 true _ A3.out).mono ?_); rintro e w' ⟨rfl, ⟨nd, rfl⟩⟩; refine ⟨_, rfl, ?_⟩))
         go_ret
         exact ⟨E_, L_⟩
     · rw [if_neg c5] at H
       have c5b0 : decide (1 ≤ a0_1) = false := decide_eq_false c5
       clear c5
       obtain rfl := Option.some.inj H
       go_enter Try.func27, Try.ntmps27
       go_wp2_with (first | ((with_reducible refine gate_dst (N := 1) rfl ?_); refine box_ 1 47 #[.int .i64 a0_0, .int .i64 a0_1, .int .i64 a0_2] ?_; intro gb202 hg w11 hbox hb; have BK202 := Aside0.mk (hbox); have GW202 := G_ hg HB; have GE202 := G_ hg HB; replace HB := Ls_ HB hb; clear hb hbox hg; have hcz12_0 : w11.cell? ⟨gb202, 0, none⟩ = some (.int .i64 a0_0) := (blk_cell BK202.out 0).trans rfl; have hcz12_1 : w11.cell? ⟨gb202, 1, none⟩ = some (.int .i64 a0_1) := (blk_cell BK202.out 1).trans rfl; have hcz12_2 : w11.cell? ⟨gb202, 2, none⟩ = some (.int .i64 a0_2) := (blk_cell BK202.out 2).trans rfl; have hfz12_0 := blk_frozen BK202.out 0; have hfz12_1 := blk_frozen BK202.out 1; have hfz12_2 := blk_frozen BK202.out 2) | ((with_reducible refine gate_callee (f := 40) rfl ?_); refine goesL_ (some 19) rfl rfl Try.func40 (by kernel_rfl) rfl #[.int .i64 a0_0] rfl M_ ?_; (with_reducible refine (vtimer_vcpu.calls a0_0 true _ A3.out).mono ?_); rintro e w' ⟨rfl, ⟨nd, rfl⟩⟩; refine ⟨_, rfl, ?_⟩))
       go_ret
       exact ⟨E_, L_⟩
   · replace c4 := Bool.eq_false_iff.mpr c4
     subst c4
     have H1 : (some false) = some r := by rw [if_neg (show ¬ (false = true) by decide)] at H; exact H
     clear H
     have H := H1
     clear H1
     obtain rfl := Option.some.inj H
     go_enter Try.func27, Try.ntmps27
     go_wp2_with (first | ((with_reducible refine gate_dst (N := 1) rfl ?_); refine box_ 1 47 #[.int .i64 a0_0, .int .i64 a0_1, .int .i64 a0_2] ?_; intro gb202 hg w13 hbox hb; have BK202 := Aside0.mk (hbox); have GW202 := G_ hg HB; have GE202 := G_ hg HB; replace HB := Ls_ HB hb; clear hb hbox hg; have hcz14_0 : w13.cell? ⟨gb202, 0, none⟩ = some (.int .i64 a0_0) := (blk_cell BK202.out 0).trans rfl; have hcz14_1 : w13.cell? ⟨gb202, 1, none⟩ = some (.int .i64 a0_1) := (blk_cell BK202.out 1).trans rfl; have hcz14_2 : w13.cell? ⟨gb202, 2, none⟩ = some (.int .i64 a0_2) := (blk_cell BK202.out 2).trans rfl; have hfz14_0 := blk_frozen BK202.out 0; have hfz14_1 := blk_frozen BK202.out 1; have hfz14_2 := blk_frozen BK202.out 2) | ((with_reducible refine gate_callee (f := 40) rfl ?_); refine goesL_ (some 19) rfl rfl Try.func40 (by kernel_rfl) rfl #[.int .i64 a0_0] rfl M_ ?_; (with_reducible refine (vtimer_vcpu.calls a0_0 false _ A3.out).mono ?_); rintro e w' ⟨rfl, ⟨nd, rfl⟩⟩; refine ⟨_, rfl, ?_⟩))
     go_ret
     exact ⟨E_, L_⟩
 · rw [if_neg c2] at H
   have c2b0 : (a0_2 == 0) = false := beq_eq_false_iff_ne.mpr c2
   have c2b1 : (a0_2 != 0) = true := bne_iff_ne.mpr c2
   by_cases c15 : a0_2 ≥ 1000
   · rw [if_pos c15] at H
     have c15b0 : decide (1000 ≤ a0_2) = true := decide_eq_true c15
     clear c15
     replace H := Option.bind_eq_some_iff.mp H
     obtain ⟨t204, A160, H⟩ := H
     replace H : (if t204 = true then (if a0_1 ≥ 1 then (if a0_1 ≤ 32 then (some (decide (a0_2 ≤ 1125899906842624))) else (some false)) else (some false)) else (some false)) = some r := H
     have A16 := Aside0.mk A160
     clear A160
     by_cases c17 : t204 = true
     · subst c17
       have H1 : (if a0_1 ≥ 1 then (if a0_1 ≤ 32 then (some (decide (a0_2 ≤ 1125899906842624))) else (some false)) else (some false)) = some r := by rw [if_pos rfl] at H; exact H
       clear H
       have H := H1
       clear H1
       by_cases c18 : a0_1 ≥ 1
       · rw [if_pos c18] at H
         have c18b0 : decide (1 ≤ a0_1) = true := decide_eq_true c18
         clear c18
         by_cases c19 : a0_1 ≤ 32
         · rw [if_pos c19] at H
           have c19b0 : decide (a0_1 ≤ 32) = true := decide_eq_true c19
           clear c19
           obtain rfl := Option.some.inj H
           go_enter Try.func27, Try.ntmps27
           go_wp2_with (first | ((with_reducible refine gate_dst (N := 1) rfl ?_); refine box_ 1 47 #[.int .i64 a0_0, .int .i64 a0_1, .int .i64 a0_2] ?_; intro gb202 hg w20 hbox hb; have BK202 := Aside0.mk (hbox); have GW202 := G_ hg HB; have GE202 := G_ hg HB; replace HB := Ls_ HB hb; clear hb hbox hg; have hcz21_0 : w20.cell? ⟨gb202, 0, none⟩ = some (.int .i64 a0_0) := (blk_cell BK202.out 0).trans rfl; have hcz21_1 : w20.cell? ⟨gb202, 1, none⟩ = some (.int .i64 a0_1) := (blk_cell BK202.out 1).trans rfl; have hcz21_2 : w20.cell? ⟨gb202, 2, none⟩ = some (.int .i64 a0_2) := (blk_cell BK202.out 2).trans rfl; have hfz21_0 := blk_frozen BK202.out 0; have hfz21_1 := blk_frozen BK202.out 1; have hfz21_2 := blk_frozen BK202.out 2) | ((with_reducible refine gate_callee (f := 40) rfl ?_); refine goesL_ (some 19) rfl rfl Try.func40 (by kernel_rfl) rfl #[.int .i64 a0_0] rfl M_ ?_; (with_reducible refine (vtimer_vcpu.calls a0_0 true _ A16.out).mono ?_); rintro e w' ⟨rfl, ⟨nd, rfl⟩⟩; refine ⟨_, rfl, ?_⟩))
           go_ret
           exact ⟨E_, L_⟩
         · rw [if_neg c19] at H
           have c19b0 : decide (a0_1 ≤ 32) = false := decide_eq_false c19
           clear c19
           obtain rfl := Option.some.inj H
           go_enter Try.func27, Try.ntmps27
           go_wp2_with (first | ((with_reducible refine gate_dst (N := 1) rfl ?_); refine box_ 1 47 #[.int .i64 a0_0, .int .i64 a0_1, .int .i64 a0_2] ?_; intro gb202 hg w22 hbox hb; have BK202 := Aside0.mk (hbox); have GW202 := G_ hg HB; have GE202 := G_ hg HB; replace HB := Ls_ HB hb; clear hb hbox hg; have hcz23_0 : w22.cell? ⟨gb202, 0, none⟩ = some (.int .i64 a0_0) := (blk_cell BK202.out 0).trans rfl; have hcz23_1 : w22.cell? ⟨gb202, 1, none⟩ = some (.int .i64 a0_1) := (blk_cell BK202.out 1).trans rfl; have hcz23_2 : w22.cell? ⟨gb202, 2, none⟩ = some (.int .i64 a0_2) := (blk_cell BK202.out 2).trans rfl; have hfz23_0 := blk_frozen BK202.out 0; have hfz23_1 := blk_frozen BK202.out 1; have hfz23_2 := blk_frozen BK202.out 2) | ((with_reducible refine gate_callee (f := 40) rfl ?_); refine goesL_ (some 19) rfl rfl Try.func40 (by kernel_rfl) rfl #[.int .i64 a0_0] rfl M_ ?_; (with_reducible refine (vtimer_vcpu.calls a0_0 true _ A16.out).mono ?_); rintro e w' ⟨rfl, ⟨nd, rfl⟩⟩; refine ⟨_, rfl, ?_⟩))
           go_ret
           exact ⟨E_, L_⟩
       · rw [if_neg c18] at H
         have c18b0 : decide (1 ≤ a0_1) = false := decide_eq_false c18
         clear c18
         obtain rfl := Option.some.inj H
         go_enter Try.func27, Try.ntmps27
         go_wp2_with (first | ((with_reducible refine gate_dst (N := 1) rfl ?_); refine box_ 1 47 #[.int .i64 a0_0, .int .i64 a0_1, .int .i64 a0_2] ?_; intro gb202 hg w24 hbox hb; have BK202 := Aside0.mk (hbox); have GW202 := G_ hg HB; have GE202 := G_ hg HB; replace HB := Ls_ HB hb; clear hb hbox hg; have hcz25_0 : w24.cell? ⟨gb202, 0, none⟩ = some (.int .i64 a0_0) := (blk_cell BK202.out 0).trans rfl; have hcz25_1 : w24.cell? ⟨gb202, 1, none⟩ = some (.int .i64 a0_1) := (blk_cell BK202.out 1).trans rfl; have hcz25_2 : w24.cell? ⟨gb202, 2, none⟩ = some (.int .i64 a0_2) := (blk_cell BK202.out 2).trans rfl; have hfz25_0 := blk_frozen BK202.out 0; have hfz25_1 := blk_frozen BK202.out 1; have hfz25_2 := blk_frozen BK202.out 2) | ((with_reducible refine gate_callee (f := 40) rfl ?_); refine goesL_ (some 19) rfl rfl Try.func40 (by kernel_rfl) rfl #[.int .i64 a0_0] rfl M_ ?_; (with_reducible refine (vtimer_vcpu.calls a0_0 true _ A16.out).mono ?_); rintro e w' ⟨rfl, ⟨nd, rfl⟩⟩; refine ⟨_, rfl, ?_⟩))
         go_ret
         exact ⟨E_, L_⟩
     · replace c17 := Bool.eq_false_iff.mpr c17
       subst c17
       have H1 : (some false) = some r := by rw [if_neg (show ¬ (false = true) by decide)] at H; exact H
       clear H
       have H := H1
       clear H1
       obtain rfl := Option.some.inj H
       go_enter Try.func27, Try.ntmps27
       go_wp2_with (first | ((with_reducible refine gate_dst (N := 1) rfl ?_); refine box_ 1 47 #[.int .i64 a0_0, .int .i64 a0_1, .int .i64 a0_2] ?_; intro gb202 hg w26 hbox hb; have BK202 := Aside0.mk (hbox); have GW202 := G_ hg HB; have GE202 := G_ hg HB; replace HB := Ls_ HB hb; clear hb hbox hg; have hcz27_0 : w26.cell? ⟨gb202, 0, none⟩ = some (.int .i64 a0_0) := (blk_cell BK202.out 0).trans rfl; have hcz27_1 : w26.cell? ⟨gb202, 1, none⟩ = some (.int .i64 a0_1) := (blk_cell BK202.out 1).trans rfl; have hcz27_2 : w26.cell? ⟨gb202, 2, none⟩ = some (.int .i64 a0_2) := (blk_cell BK202.out 2).trans rfl; have hfz27_0 := blk_frozen BK202.out 0; have hfz27_1 := blk_frozen BK202.out 1; have hfz27_2 := blk_frozen BK202.out 2) | ((with_reducible refine gate_callee (f := 40) rfl ?_); refine goesL_ (some 19) rfl rfl Try.func40 (by kernel_rfl) rfl #[.int .i64 a0_0] rfl M_ ?_; (with_reducible refine (vtimer_vcpu.calls a0_0 false _ A16.out).mono ?_); rintro e w' ⟨rfl, ⟨nd, rfl⟩⟩; refine ⟨_, rfl, ?_⟩))
       go_ret
       exact ⟨E_, L_⟩
   · rw [if_neg c15] at H
     have c15b0 : decide (1000 ≤ a0_2) = false := decide_eq_false c15
     clear c15
     replace H := Option.bind_eq_some_iff.mp H
     obtain ⟨t205, A280, H⟩ := H
     replace H : (if t205 = true then (if a0_1 ≥ 1 then (if a0_1 ≤ 32 then (some false) else (some false)) else (some false)) else (some false)) = some r := H
     have A28 := Aside0.mk A280
     clear A280
     by_cases c29 : t205 = true
     · subst c29
       have H1 : (if a0_1 ≥ 1 then (if a0_1 ≤ 32 then (some false) else (some false)) else (some false)) = some r := by rw [if_pos rfl] at H; exact H
       clear H
       have H := H1
       clear H1
       by_cases c30 : a0_1 ≥ 1
       · rw [if_pos c30] at H
         have c30b0 : decide (1 ≤ a0_1) = true := decide_eq_true c30
         clear c30
         by_cases c31 : a0_1 ≤ 32
         · rw [if_pos c31] at H
           have c31b0 : decide (a0_1 ≤ 32) = true := decide_eq_true c31
           clear c31
           obtain rfl := Option.some.inj H
           go_enter Try.func27, Try.ntmps27
           go_wp2_with (first | ((with_reducible refine gate_dst (N := 1) rfl ?_); refine box_ 1 47 #[.int .i64 a0_0, .int .i64 a0_1, .int .i64 a0_2] ?_; intro gb202 hg w32 hbox hb; have BK202 := Aside0.mk (hbox); have GW202 := G_ hg HB; have GE202 := G_ hg HB; replace HB := Ls_ HB hb; clear hb hbox hg; have hcz33_0 : w32.cell? ⟨gb202, 0, none⟩ = some (.int .i64 a0_0) := (blk_cell BK202.out 0).trans rfl; have hcz33_1 : w32.cell? ⟨gb202, 1, none⟩ = some (.int .i64 a0_1) := (blk_cell BK202.out 1).trans rfl; have hcz33_2 : w32.cell? ⟨gb202, 2, none⟩ = some (.int .i64 a0_2) := (blk_cell BK202.out 2).trans rfl; have hfz33_0 := blk_frozen BK202.out 0; have hfz33_1 := blk_frozen BK202.out 1; have hfz33_2 := blk_frozen BK202.out 2) | ((with_reducible refine gate_callee (f := 40) rfl ?_); refine goesL_ (some 19) rfl rfl Try.func40 (by kernel_rfl) rfl #[.int .i64 a0_0] rfl M_ ?_; (with_reducible refine (vtimer_vcpu.calls a0_0 true _ A28.out).mono ?_); rintro e w' ⟨rfl, ⟨nd, rfl⟩⟩; refine ⟨_, rfl, ?_⟩))
           go_ret
           exact ⟨E_, L_⟩
         · rw [if_neg c31] at H
           have c31b0 : decide (a0_1 ≤ 32) = false := decide_eq_false c31
           clear c31
           obtain rfl := Option.some.inj H
           go_enter Try.func27, Try.ntmps27
           go_wp2_with (first | ((with_reducible refine gate_dst (N := 1) rfl ?_); refine box_ 1 47 #[.int .i64 a0_0, .int .i64 a0_1, .int .i64 a0_2] ?_; intro gb202 hg w34 hbox hb; have BK202 := Aside0.mk (hbox); have GW202 := G_ hg HB; have GE202 := G_ hg HB; replace HB := Ls_ HB hb; clear hb hbox hg; have hcz35_0 : w34.cell? ⟨gb202, 0, none⟩ = some (.int .i64 a0_0) := (blk_cell BK202.out 0).trans rfl; have hcz35_1 : w34.cell? ⟨gb202, 1, none⟩ = some (.int .i64 a0_1) := (blk_cell BK202.out 1).trans rfl; have hcz35_2 : w34.cell? ⟨gb202, 2, none⟩ = some (.int .i64 a0_2) := (blk_cell BK202.out 2).trans rfl; have hfz35_0 := blk_frozen BK202.out 0; have hfz35_1 := blk_frozen BK202.out 1; have hfz35_2 := blk_frozen BK202.out 2) | ((with_reducible refine gate_callee (f := 40) rfl ?_); refine goesL_ (some 19) rfl rfl Try.func40 (by kernel_rfl) rfl #[.int .i64 a0_0] rfl M_ ?_; (with_reducible refine (vtimer_vcpu.calls a0_0 true _ A28.out).mono ?_); rintro e w' ⟨rfl, ⟨nd, rfl⟩⟩; refine ⟨_, rfl, ?_⟩))
           go_ret
           exact ⟨E_, L_⟩
       · rw [if_neg c30] at H
         have c30b0 : decide (1 ≤ a0_1) = false := decide_eq_false c30
         clear c30
         obtain rfl := Option.some.inj H
         go_enter Try.func27, Try.ntmps27
         go_wp2_with (first | ((with_reducible refine gate_dst (N := 1) rfl ?_); refine box_ 1 47 #[.int .i64 a0_0, .int .i64 a0_1, .int .i64 a0_2] ?_; intro gb202 hg w36 hbox hb; have BK202 := Aside0.mk (hbox); have GW202 := G_ hg HB; have GE202 := G_ hg HB; replace HB := Ls_ HB hb; clear hb hbox hg; have hcz37_0 : w36.cell? ⟨gb202, 0, none⟩ = some (.int .i64 a0_0) := (blk_cell BK202.out 0).trans rfl; have hcz37_1 : w36.cell? ⟨gb202, 1, none⟩ = some (.int .i64 a0_1) := (blk_cell BK202.out 1).trans rfl; have hcz37_2 : w36.cell? ⟨gb202, 2, none⟩ = some (.int .i64 a0_2) := (blk_cell BK202.out 2).trans rfl; have hfz37_0 := blk_frozen BK202.out 0; have hfz37_1 := blk_frozen BK202.out 1; have hfz37_2 := blk_frozen BK202.out 2) | ((with_reducible refine gate_callee (f := 40) rfl ?_); refine goesL_ (some 19) rfl rfl Try.func40 (by kernel_rfl) rfl #[.int .i64 a0_0] rfl M_ ?_; (with_reducible refine (vtimer_vcpu.calls a0_0 true _ A28.out).mono ?_); rintro e w' ⟨rfl, ⟨nd, rfl⟩⟩; refine ⟨_, rfl, ?_⟩))
         go_ret
         exact ⟨E_, L_⟩
     · replace c29 := Bool.eq_false_iff.mpr c29
       subst c29
       have H1 : (some false) = some r := by rw [if_neg (show ¬ (false = true) by decide)] at H; exact H
       clear H
       have H := H1
       clear H1
       obtain rfl := Option.some.inj H
       go_enter Try.func27, Try.ntmps27
       go_wp2_with (first | ((with_reducible refine gate_dst (N := 1) rfl ?_); refine box_ 1 47 #[.int .i64 a0_0, .int .i64 a0_1, .int .i64 a0_2] ?_; intro gb202 hg w38 hbox hb; have BK202 := Aside0.mk (hbox); have GW202 := G_ hg HB; have GE202 := G_ hg HB; replace HB := Ls_ HB hb; clear hb hbox hg; have hcz39_0 : w38.cell? ⟨gb202, 0, none⟩ = some (.int .i64 a0_0) := (blk_cell BK202.out 0).trans rfl; have hcz39_1 : w38.cell? ⟨gb202, 1, none⟩ = some (.int .i64 a0_1) := (blk_cell BK202.out 1).trans rfl; have hcz39_2 : w38.cell? ⟨gb202, 2, none⟩ = some (.int .i64 a0_2) := (blk_cell BK202.out 2).trans rfl; have hfz39_0 := blk_frozen BK202.out 0; have hfz39_1 := blk_frozen BK202.out 1; have hfz39_2 := blk_frozen BK202.out 2) | ((with_reducible refine gate_callee (f := 40) rfl ?_); refine goesL_ (some 19) rfl rfl Try.func40 (by kernel_rfl) rfl #[.int .i64 a0_0] rfl M_ ?_; (with_reducible refine (vtimer_vcpu.calls a0_0 false _ A28.out).mono ?_); rintro e w' ⟨rfl, ⟨nd, rfl⟩⟩; refine ⟨_, rfl, ?_⟩))
       go_ret
       exact ⟨E_, L_⟩

end Go.Proofs.Ytlddekjlmkimnaa.C
