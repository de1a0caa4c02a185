import Derived.Test.YtlddekjlmkimnaaJ5
import Derived.Test.YtlddekjlmkimnaaJ6
import Derived.Test.YtlddekjlmkimnaaJ24
-- Written by a program of this session (wip/tools/stub.py, over the kit's print) and by hand; not the kit's print.
namespace Go.Proofs.Ytlddekjlmkimnaa.C
open Go.RowKit Go.Proofs.YtlddekjlmkimnaaW.PrintWords Go.Proofs.YtlddekjlmkimnaaW.PrintLast Go.Proofs.YtlddekjlmkimnaaW.PrintMore
attribute [local go_sem] max2_int min2_int max_two min_two max_three min_three max_four min_four   -- for this text's walks alone
set_option linter.unusedVariables false
set_option linter.unusedSimpArgs false

attribute [local go_sem high] eqA47 eqA88
/-! ### mainsheetref15_SameTimers: function 69 -/
def mainsheetref15_SameTimers.l0 : Nat → List (S88) → List (S88) → Int → Option (Bool)
 | 0, _, _, _ => none
 | k + 1, x0, x1, x5 => if x5 < (x0.length : Int) then (if 0 ≤ x5 then (if x5 < (x1.length : Int) then (if (!(((rd_T88 x0 x5).f0) == ((rd_T88 x1 x5).f0)) || (!(((rd_T88 x0 x5).f1) == ((rd_T88 x1 x5).f1)))) = true then (some false) else (mainsheetref15_SameTimers.l0 k x0 x1 (wrap64 (x5 + 1)))) else (none)) else (none)) else (some true)
def mainsheetref15_SameTimers.f (k : Nat) (l0 : List (S88)) (l1 : List (S88)) : Option (Bool) := if (l0.length : Int) = (l1.length : Int) then (mainsheetref15_SameTimers.l0 k l0 l1 0) else (some false)
theorem mainsheetref15_SameTimers.mono_l : ∀ k, (∀ y0 y1 y2, LeO (mainsheetref15_SameTimers.l0 k y0 y1 y2) (mainsheetref15_SameTimers.l0 (k + 1) y0 y1 y2))
 | 0 => fun _ _ _ r h => by simp [mainsheetref15_SameTimers.l0] at h
 | k + 1 => by
  have ih0 := mainsheetref15_SameTimers.mono_l k
  · intro y0 y1 y2
    unfold mainsheetref15_SameTimers.l0
    repeat' first
    | (with_reducible exact ih0 _ _ _)
    | (with_reducible exact LeO.refl _)
    | (with_reducible exact LeO.none _)
    | (with_reducible refine LeO.ite ?_ ?_)
    | (with_reducible refine LeO.bind ?_ (fun _ => ?_))
    | exact ih0 _ _ _
    | exact LeO.none _
    | refine LeO.ite ?_ ?_
    | refine LeO.bind ?_ (fun _ => ?_)
theorem mainsheetref15_SameTimers.mono : ∀ a0 a1 k, LeO (mainsheetref15_SameTimers.f k a0 a1) (mainsheetref15_SameTimers.f (k + 1) a0 a1) := by
 intro a0 a1 k
 have ih0 := mainsheetref15_SameTimers.mono_l k
 unfold mainsheetref15_SameTimers.f
 repeat' first
  | (with_reducible exact ih0 _ _ _)
  | (with_reducible exact LeO.refl _)
  | (with_reducible exact LeO.none _)
  | (with_reducible refine LeO.ite ?_ ?_)
  | (with_reducible refine LeO.bind ?_ (fun _ => ?_))
  | exact ih0 _ _ _
  | exact LeO.none _
  | refine LeO.ite ?_ ?_
  | refine LeO.bind ?_ (fun _ => ?_)
set_option maxHeartbeats 8000000 in
set_option maxRecDepth 100000 in
theorem mainsheetref15_SameTimers.calls (k : Nat) (A0 : Option Addr) (c0 : Nat) (l0 : List (S88)) (A1 : Option Addr) (c1 : Nat) (l1 : List (S88)) (r : Bool) (w : World) (hr0 : Kd.C k88 w A0 l0.length l0) (hc0 : l0.length ≤ c0) (hr1 : Kd.C k88 w A1 l1.length l1) (hc1 : l1.length ≤ c1) (h : mainsheetref15_SameTimers.f k l0 l1 = some r) :
 Calls Try.prog 69 #[.slice A0 l0.length c0, .slice A1 l1.length c1] w fun e w' => e = .returned (.bool r) ∧ Drawn0 w w' := by
 have hu88 := Try.underlying88
 have HR0 := Aside0.mk hr0
 have HC0 := Aside0.mk hc0
 clear hr0 hc0
 have HR1 := Aside0.mk hr1
 have HC1 := Aside0.mk hc1
 clear hr1 hc1
 have H : (if (l0.length : Int) = (l1.length : Int) then (mainsheetref15_SameTimers.l0 k l0 l1 0) else (some false)) = some r := h
 clear h
 by_cases c3 : (l0.length : Int) = (l1.length : Int)
 · rw [if_pos c3] at H
   have c3b0 : ((l0.length : Int) == (l1.length : Int)) = true := beq_iff_eq.mpr c3
   have c3b1 : ((l0.length : Int) != (l1.length : Int)) = false := bne_eq_false_iff_eq.mpr c3
   have c3b2 : (l0.length == l1.length) = true := by first | simpa using c3 | (simp at c3 ⊢; omega)
   clear c3
   have H' := Aside0.mk H
   clear H
   go_enter Try.func69, Try.ntmps69
   go_wp2
   repeat (go_quiet (fail); try go_wp2)
   go_loopg [5] k (fun kq v5 w' => ∃ (x5_1 : Int), v5 = .int .i64 x5_1 ∧ Aside0 (mainsheetref15_SameTimers.l0 kq l0 l1 x5_1 = some r) ∧ Aside0 (kq ≤ k) ∧ Drawn0 w w')
   case atStart => exact ⟨(0), S_, H', ⟨Nat.le_refl _⟩, by repeat (first | exact Drawn0.refl _ | apply Drawn0.step)⟩
   case round =>
    clear H'
    try clear c1; try clear p2; try clear c3; try clear c3b0; try clear c3b1; try clear c3b2
    obtain ⟨x5_1, rfl, HA, HK1, ⟨m1, rfl⟩⟩ := hrel
    cases gk with
    | zero => exact absurd HA.out (by simp [mainsheetref15_SameTimers.l0])
    | succ k1 =>
     have H := HA.out
     clear HA
     simp only [mainsheetref15_SameTimers.l0] at H
     by_cases c4 : x5_1 < (l0.length : Int)
     · rw [if_pos c4] at H
       have c4b0 : decide (x5_1 < (l0.length : Int)) = true := decide_eq_true c4
       clear c4
       by_cases c5 : 0 ≤ x5_1
       · rw [if_pos c5] at H
         have c5b0 : decide (0 ≤ x5_1) = true := decide_eq_true c5
         clear c5
         by_cases c6 : x5_1 < (l1.length : Int)
         · rw [if_pos c6] at H
           have c6b0 : decide (x5_1 < (l1.length : Int)) = true := decide_eq_true c6
           clear c6
           by_cases c7 : (!(((rd_T88 l0 x5_1).f0) == ((rd_T88 l1 x5_1).f0)) || (!(((rd_T88 l0 x5_1).f1) == ((rd_T88 l1 x5_1).f1)))) = true
           · rw [if_pos c7] at H
             have c7b0 : (!(((rd_T88 l0 x5_1).f0) == ((rd_T88 l1 x5_1).f0)) || (!(((rd_T88 l0 x5_1).f1) == ((rd_T88 l1 x5_1).f1)))) = true := c7
             clear c7
             obtain rfl := Option.some.inj H
             have p328 : 0 ≤ (x5_1 : Int) := of_decide_eq_true As_
             have q328 : x5_1 < (l0.length : Int) := of_decide_eq_true As_
             obtain ⟨ad328, e328, hx328_0, hx328_1⟩ := at_T88 HR0.out x5_1 p328 q328
             cases e328
             replace p328 := eq_true p328
             replace q328 := eq_true q328
             have p329 : 0 ≤ (x5_1 : Int) := of_decide_eq_true As_
             have q329 : x5_1 < (l1.length : Int) := of_decide_eq_true As_
             obtain ⟨ad329, e329, hx329_0, hx329_1⟩ := at_T88 HR1.out x5_1 p329 q329
             cases e329
             replace p329 := eq_true p329
             replace q329 := eq_true q329
             go_wp2
             repeat (go_quiet (fail); try go_wp2)
             go_ret
             exact ⟨by first | rfl | (simp; done) | (simp [*]; done), by repeat (first | exact Drawn0.refl _ | apply Drawn0.step)⟩
           · rw [if_neg c7] at H
             have c7b0 : (!(((rd_T88 l0 x5_1).f0) == ((rd_T88 l1 x5_1).f0)) || (!(((rd_T88 l0 x5_1).f1) == ((rd_T88 l1 x5_1).f1)))) = false := by simpa using c7
             clear c7
             have H' := Aside0.mk H
             clear H
             have p328 : 0 ≤ (x5_1 : Int) := of_decide_eq_true As_
             have q328 : x5_1 < (l0.length : Int) := of_decide_eq_true As_
             obtain ⟨ad328, e328, hx328_0, hx328_1⟩ := at_T88 HR0.out x5_1 p328 q328
             cases e328
             replace p328 := eq_true p328
             replace q328 := eq_true q328
             have p329 : 0 ≤ (x5_1 : Int) := of_decide_eq_true As_
             have q329 : x5_1 < (l1.length : Int) := of_decide_eq_true As_
             obtain ⟨ad329, e329, hx329_0, hx329_1⟩ := at_T88 HR1.out x5_1 p329 q329
             cases e329
             replace p329 := eq_true p329
             replace q329 := eq_true q329
             go_wp2
             repeat (go_quiet (fail); try go_wp2)
             go_roundg k1
             case measure => have := HK1.out; omega
             case rel => exact ⟨(wrap64 (x5_1 + 1)), S_, H', ⟨by have := HK1.out; omega⟩, by repeat (first | exact Drawn0.refl _ | apply Drawn0.step)⟩
         · rw [if_neg c6] at H
           exact absurd H (by simp)
       · rw [if_neg c5] at H
         exact absurd H (by simp)
     · rw [if_neg c4] at H
       have c4b0 : decide (x5_1 < (l0.length : Int)) = false := decide_eq_false c4
       clear c4
       obtain rfl := Option.some.inj H
       go_wp2
       repeat (go_quiet (fail); try go_wp2)
       go_ret
       exact ⟨by first | rfl | (simp; done) | (simp [*]; done), by repeat (first | exact Drawn0.refl _ | apply Drawn0.step)⟩
 · rw [if_neg c3] at H
   have c3b0 : ((l0.length : Int) == (l1.length : Int)) = false := beq_eq_false_iff_ne.mpr c3
   have c3b1 : ((l0.length : Int) != (l1.length : Int)) = true := bne_iff_ne.mpr c3
   have c3b2 : (l0.length == l1.length) = false := by first | simpa using c3 | (simp at c3 ⊢; omega)
   obtain rfl := Option.some.inj H
   go_enter Try.func69, Try.ntmps69
   go_wp2
   repeat (go_quiet (fail); try go_wp2)
   go_ret
   exact ⟨by first | rfl | (simp; done) | (simp [*]; done), by repeat (first | exact Drawn0.refl _ | apply Drawn0.step)⟩

/-! ### mainsheetref15_Same: function 46 -/
def mainsheetref15_Same.f (k : Nat) (a0_0 : Int) (l0_1 : List (S88)) (a1_0 : Int) (l1_1 : List (S88)) : Option (Bool) := if a0_0 = a1_0 then ((mainsheetref15_SameTimers.f k l0_1 l1_1).bind fun t332 => (some t332)) else (some false)
theorem mainsheetref15_Same.mono : ∀ a0 a1 a2 a3 k, LeO (mainsheetref15_Same.f k a0 a1 a2 a3) (mainsheetref15_Same.f (k + 1) a0 a1 a2 a3) := by
 intro a0 a1 a2 a3 k
 unfold mainsheetref15_Same.f
 repeat' first
  | (with_reducible exact mainsheetref15_SameTimers.mono _ _ _)
  | (with_reducible exact LeO.refl _)
  | (with_reducible exact LeO.none _)
  | (with_reducible refine LeO.ite ?_ ?_)
  | (with_reducible refine LeO.bind ?_ (fun _ => ?_))
  | exact mainsheetref15_SameTimers.mono _ _ _
  | exact LeO.none _
  | refine LeO.ite ?_ ?_
  | refine LeO.bind ?_ (fun _ => ?_)
set_option maxHeartbeats 8000000 in
set_option maxRecDepth 100000 in
theorem mainsheetref15_Same.calls (k : Nat) (a0_0 : Int) (A0_1 : Option Addr) (c0_1 : Nat) (l0_1 : List (S88)) (a1_0 : Int) (A1_1 : Option Addr) (c1_1 : Nat) (l1_1 : List (S88)) (r : Bool) (w : World) (hr0_1 : Kd.C k88 w A0_1 l0_1.length l0_1) (hc0_1 : l0_1.length ≤ c0_1) (hr1_1 : Kd.C k88 w A1_1 l1_1.length l1_1) (hc1_1 : l1_1.length ≤ c1_1) (h : mainsheetref15_Same.f k a0_0 l0_1 a1_0 l1_1 = some r) :
 Calls Try.prog 46 #[.agg #[.int .i64 a0_0, .slice A0_1 l0_1.length c0_1], .agg #[.int .i64 a1_0, .slice A1_1 l1_1.length c1_1]] w fun e w' => e = .returned (.bool r) ∧ Below w.heap.size w w' := by
 have hu24 := Try.underlying24
 have HR0_1 := Aside0.mk hr0_1
 have HC0_1 := Aside0.mk hc0_1
 clear hr0_1 hc0_1
 have HR1_1 := Aside0.mk hr1_1
 have HC1_1 := Aside0.mk hc1_1
 clear hr1_1 hc1_1
 have HB := Aside0.mk (Below.refl w.heap.size w)
 have H : (if a0_0 = a1_0 then ((mainsheetref15_SameTimers.f k l0_1 l1_1).bind fun t332 => (some t332)) else (some false)) = some r := h
 clear h
 by_cases c3 : a0_0 = a1_0
 · rw [if_pos c3] at H
   have c3b0 : (a0_0 == a1_0) = true := beq_iff_eq.mpr c3
   have c3b1 : (a0_0 != a1_0) = false := bne_eq_false_iff_eq.mpr c3
   clear c3
   replace H := Option.bind_eq_some_iff.mp H
   obtain ⟨t332, A40, H⟩ := H
   replace H : (some t332) = some r := H
   have A4 := Aside0.mk A40
   clear A40
   obtain rfl := Option.some.inj H
   go_enter Try.func46, Try.ntmps46
   go_wp2_with (first | ((with_reducible refine gate_dst (N := 2) rfl ?_); refine box_ 2 24 #[.int .i64 a0_0, .slice A0_1 l0_1.length c0_1] ?_; intro gb330 hg w5 hbox hb; have BK330 := Aside0.mk (hbox); have GW330 := G_ hg HB; have GE330 := G_ hg HB; replace HB := Ls_ HB hb; clear hb hbox hg) | ((with_reducible refine gate_dst (N := 3) rfl ?_); refine box_ 3 24 #[.int .i64 a1_0, .slice A1_1 l1_1.length c1_1] ?_; intro gb331 hg w6 hbox hb; have BK331 := Aside0.mk (hbox); have GW331 := G_ hg HB; have GE331 := G_ hg HB; have NB330_331 := Nl_ hg BK330; have NB331_330 := Ng_ hg BK330; replace BK330 := Bb_ BK330 hb; replace HB := Ls_ HB hb; clear hb hbox hg; have hnb7 := NB330_331.out; have hnc7 := NB331_330.out; have hcz8_0 : w6.cell? ⟨gb330, 0, none⟩ = some (.int .i64 a0_0) := (blk_cell BK330.out 0).trans rfl; have hcz8_1 : w6.cell? ⟨gb330, 1, none⟩ = some (.slice A0_1 l0_1.length c0_1) := (blk_cell BK330.out 1).trans rfl; have hfz8_0 := blk_frozen BK330.out 0; have hfz8_1 := blk_frozen BK330.out 1; have hcz9_0 : w6.cell? ⟨gb331, 0, none⟩ = some (.int .i64 a1_0) := (blk_cell BK331.out 0).trans rfl; have hcz9_1 : w6.cell? ⟨gb331, 1, none⟩ = some (.slice A1_1 l1_1.length c1_1) := (blk_cell BK331.out 1).trans rfl; have hfz9_0 := blk_frozen BK331.out 0; have hfz9_1 := blk_frozen BK331.out 1) | (go_at_call 69; (with_reducible refine (mainsheetref15_SameTimers.calls k _ _ l0_1 _ _ l1_1 t332 _ ?side1 ?side2 ?side3 ?side4 A4.out).mono ?_); (case side1 => exact C_ HR0_1); (case side2 => exact HC0_1.out); (case side3 => exact C_ HR1_1); (case side4 => exact HC1_1.out); rintro e w' ⟨rfl, ⟨nd, rfl⟩⟩))
   go_ret
   exact ⟨E_, L_⟩
 · rw [if_neg c3] at H
   have c3b0 : (a0_0 == a1_0) = false := beq_eq_false_iff_ne.mpr c3
   have c3b1 : (a0_0 != a1_0) = true := bne_iff_ne.mpr c3
   obtain rfl := Option.some.inj H
   go_enter Try.func46, Try.ntmps46
   go_wp2_with (first | ((with_reducible refine gate_dst (N := 2) rfl ?_); refine box_ 2 24 #[.int .i64 a0_0, .slice A0_1 l0_1.length c0_1] ?_; intro gb330 hg w10 hbox hb; have BK330 := Aside0.mk (hbox); have GW330 := G_ hg HB; have GE330 := G_ hg HB; replace HB := Ls_ HB hb; clear hb hbox hg) | ((with_reducible refine gate_dst (N := 3) rfl ?_); refine box_ 3 24 #[.int .i64 a1_0, .slice A1_1 l1_1.length c1_1] ?_; intro gb331 hg w11 hbox hb; have BK331 := Aside0.mk (hbox); have GW331 := G_ hg HB; have GE331 := G_ hg HB; have NB330_331 := Nl_ hg BK330; have NB331_330 := Ng_ hg BK330; replace BK330 := Bb_ BK330 hb; replace HB := Ls_ HB hb; clear hb hbox hg; have hnb12 := NB330_331.out; have hnc12 := NB331_330.out; have hcz13_0 : w11.cell? ⟨gb330, 0, none⟩ = some (.int .i64 a0_0) := (blk_cell BK330.out 0).trans rfl; have hcz13_1 : w11.cell? ⟨gb330, 1, none⟩ = some (.slice A0_1 l0_1.length c0_1) := (blk_cell BK330.out 1).trans rfl; have hfz13_0 := blk_frozen BK330.out 0; have hfz13_1 := blk_frozen BK330.out 1; have hcz14_0 : w11.cell? ⟨gb331, 0, none⟩ = some (.int .i64 a1_0) := (blk_cell BK331.out 0).trans rfl; have hcz14_1 : w11.cell? ⟨gb331, 1, none⟩ = some (.slice A1_1 l1_1.length c1_1) := (blk_cell BK331.out 1).trans rfl; have hfz14_0 := blk_frozen BK331.out 0; have hfz14_1 := blk_frozen BK331.out 1))
   go_ret
   exact ⟨E_, L_⟩

/-! ### mainsheetref18_Same: function 17 -/
mutual
def mainsheetref18_Same.j0 : Nat → Bool → Int → List (S88) → List (S47) → Int → List (S88) → List (S47) → Option (Bool)
 | 0, _, _, _, _, _, _, _ => none
 | k + 1, x20, x334000, x334001, x334002, x335000, x335001, x335002 => if x20 = true then (some false) else (mainsheetref18_Same.l0 k (x334002.length : Int) 0 x334000 x334001 x334002 x335000 x335001 x335002)
def mainsheetref18_Same.l0 : Nat → Int → Int → Int → List (S88) → List (S47) → Int → List (S88) → List (S47) → Option (Bool)
 | 0, _, _, _, _, _, _, _, _ => none
 | k + 1, x23, x24, x334000, x334001, x334002, x335000, x335001, x335002 => if x24 < x23 then (if 0 ≤ x24 then (if x24 < (x334002.length : Int) then (if x24 < (x335002.length : Int) then (if (!(((rd_T47 x334002 x24).f0) == ((rd_T47 x335002 x24).f0)) || (!(((rd_T47 x334002 x24).f1) == ((rd_T47 x335002 x24).f1)) || (!(((rd_T47 x334002 x24).f2) == ((rd_T47 x335002 x24).f2))))) = true then (some false) else (mainsheetref18_Same.l0 k x23 (wrap64 (x24 + 1)) x334000 x334001 x334002 x335000 x335001 x335002)) else (none)) else (none)) else (none)) else (some true)
end
def mainsheetref18_Same.f (k : Nat) (a0_0 : Int) (l0_1 : List (S88)) (l0_2 : List (S47)) (a1_0 : Int) (l1_1 : List (S88)) (l1_2 : List (S47)) : Option (Bool) := (mainsheetref15_Same.f k a0_0 l0_1 a1_0 l1_1).bind fun t335 => (if t335 = true then (mainsheetref18_Same.j0 k ((l0_2.length : Int) != (l1_2.length : Int)) a0_0 l0_1 l0_2 a1_0 l1_1 l1_2) else (mainsheetref18_Same.j0 k true a0_0 l0_1 l0_2 a1_0 l1_1 l1_2))
theorem mainsheetref18_Same.mono_l : ∀ k, (∀ y0 y1 y2 y3 y4 y5 y6, LeO (mainsheetref18_Same.j0 k y0 y1 y2 y3 y4 y5 y6) (mainsheetref18_Same.j0 (k + 1) y0 y1 y2 y3 y4 y5 y6)) ∧ (∀ y0 y1 y2 y3 y4 y5 y6 y7, LeO (mainsheetref18_Same.l0 k y0 y1 y2 y3 y4 y5 y6 y7) (mainsheetref18_Same.l0 (k + 1) y0 y1 y2 y3 y4 y5 y6 y7))
 | 0 => ⟨fun _ _ _ _ _ _ _ r h => by simp [mainsheetref18_Same.j0] at h, fun _ _ _ _ _ _ _ _ r h => by simp [mainsheetref18_Same.l0] at h⟩
 | k + 1 => by
  obtain ⟨ih0, ih1⟩ := mainsheetref18_Same.mono_l k
  refine ⟨?_, ?_⟩
  · intro y0 y1 y2 y3 y4 y5 y6
    unfold mainsheetref18_Same.j0
    repeat' first
    | (with_reducible exact ih0 _ _ _ _ _ _ _)
    | (with_reducible exact ih1 _ _ _ _ _ _ _ _)
    | (with_reducible exact mainsheetref15_Same.mono _ _ _ _ _)
    | (with_reducible exact LeO.refl _)
    | (with_reducible exact LeO.none _)
    | (with_reducible refine LeO.ite ?_ ?_)
    | (with_reducible refine LeO.bind ?_ (fun _ => ?_))
    | exact ih0 _ _ _ _ _ _ _
    | exact ih1 _ _ _ _ _ _ _ _
    | exact mainsheetref15_Same.mono _ _ _ _ _
    | exact LeO.none _
    | refine LeO.ite ?_ ?_
    | refine LeO.bind ?_ (fun _ => ?_)
  · intro y0 y1 y2 y3 y4 y5 y6 y7
    unfold mainsheetref18_Same.l0
    repeat' first
    | (with_reducible exact ih0 _ _ _ _ _ _ _)
    | (with_reducible exact ih1 _ _ _ _ _ _ _ _)
    | (with_reducible exact mainsheetref15_Same.mono _ _ _ _ _)
    | (with_reducible exact LeO.refl _)
    | (with_reducible exact LeO.none _)
    | (with_reducible refine LeO.ite ?_ ?_)
    | (with_reducible refine LeO.bind ?_ (fun _ => ?_))
    | exact ih0 _ _ _ _ _ _ _
    | exact ih1 _ _ _ _ _ _ _ _
    | exact mainsheetref15_Same.mono _ _ _ _ _
    | exact LeO.none _
    | refine LeO.ite ?_ ?_
    | refine LeO.bind ?_ (fun _ => ?_)
theorem mainsheetref18_Same.mono : ∀ a0 a1 a2 a3 a4 a5 k, LeO (mainsheetref18_Same.f k a0 a1 a2 a3 a4 a5) (mainsheetref18_Same.f (k + 1) a0 a1 a2 a3 a4 a5) := by
 intro a0 a1 a2 a3 a4 a5 k
 obtain ⟨ih0, ih1⟩ := mainsheetref18_Same.mono_l k
 unfold mainsheetref18_Same.f
 repeat' first
  | (with_reducible exact ih0 _ _ _ _ _ _ _)
  | (with_reducible exact ih1 _ _ _ _ _ _ _ _)
  | (with_reducible exact mainsheetref15_Same.mono _ _ _ _ _)
  | (with_reducible exact LeO.refl _)
  | (with_reducible exact LeO.none _)
  | (with_reducible refine LeO.ite ?_ ?_)
  | (with_reducible refine LeO.bind ?_ (fun _ => ?_))
  | exact ih0 _ _ _ _ _ _ _
  | exact ih1 _ _ _ _ _ _ _ _
  | exact mainsheetref15_Same.mono _ _ _ _ _
  | exact LeO.none _
  | refine LeO.ite ?_ ?_
  | refine LeO.bind ?_ (fun _ => ?_)
set_option maxHeartbeats 8000000 in
set_option maxRecDepth 100000 in
theorem mainsheetref18_Same.calls (k : Nat) (a0_0 : Int) (A0_1 : Option Addr) (c0_1 : Nat) (l0_1 : List (S88)) (A0_2 : Option Addr) (c0_2 : Nat) (l0_2 : List (S47)) (a1_0 : Int) (A1_1 : Option Addr) (c1_1 : Nat) (l1_1 : List (S88)) (A1_2 : Option Addr) (c1_2 : Nat) (l1_2 : List (S47)) (r : Bool) (w : World) (hr0_1 : Kd.C k88 w A0_1 l0_1.length l0_1) (hc0_1 : l0_1.length ≤ c0_1) (hr0_2 : Kd.C k47 w A0_2 l0_2.length l0_2) (hc0_2 : l0_2.length ≤ c0_2) (hr1_1 : Kd.C k88 w A1_1 l1_1.length l1_1) (hc1_1 : l1_1.length ≤ c1_1) (hr1_2 : Kd.C k47 w A1_2 l1_2.length l1_2) (hc1_2 : l1_2.length ≤ c1_2) (h : mainsheetref18_Same.f k a0_0 l0_1 l0_2 a1_0 l1_1 l1_2 = some r) :
 Calls Try.prog 17 #[.agg #[.int .i64 a0_0, .slice A0_1 l0_1.length c0_1, .slice A0_2 l0_2.length c0_2], .agg #[.int .i64 a1_0, .slice A1_1 l1_1.length c1_1, .slice A1_2 l1_2.length c1_2]] w fun e w' => e = .returned (.bool r) ∧ Below w.heap.size w w' := by
 have hu27 := Try.underlying27
 have hu24 := Try.underlying24
 have hu47 := Try.underlying47
 have HR0_1 := Aside0.mk hr0_1
 have HC0_1 := Aside0.mk hc0_1
 clear hr0_1 hc0_1
 have HR0_2 := Aside0.mk hr0_2
 have HC0_2 := Aside0.mk hc0_2
 clear hr0_2 hc0_2
 have HR1_1 := Aside0.mk hr1_1
 have HC1_1 := Aside0.mk hc1_1
 clear hr1_1 hc1_1
 have HR1_2 := Aside0.mk hr1_2
 have HC1_2 := Aside0.mk hc1_2
 clear hr1_2 hc1_2
 have HB := Aside0.mk (Below.refl w.heap.size w)
 have H : ((mainsheetref15_Same.f k a0_0 l0_1 a1_0 l1_1).bind fun t335 => (if t335 = true then (mainsheetref18_Same.j0 k ((l0_2.length : Int) != (l1_2.length : Int)) a0_0 l0_1 l0_2 a1_0 l1_1 l1_2) else (mainsheetref18_Same.j0 k true a0_0 l0_1 l0_2 a1_0 l1_1 l1_2))) = some r := h
 clear h
 have HC3 := Aside0.mk H
 clear H
 go_enter Try.func17, Try.ntmps17
 go_upto_region 1 with (first | ((with_reducible refine gate_dst (N := 2) rfl ?_); (try (refine gate_guard (by rfl) ?_; dsimp only)); refine box_ 2 27 #[.int .i64 a0_0, .slice A0_1 l0_1.length c0_1, .slice A0_2 l0_2.length c0_2] ?_; intro gb333 hg w4 hbox hb; have BK333 := Aside0.mk (hbox); have GW333 := G_ hg HB; have GE333 := G_ hg HB; replace HB := Ls_ HB hb; clear hb hbox hg) | ((with_reducible refine gate_dst (N := 3) rfl ?_); (try (refine gate_guard (by rfl) ?_; dsimp only)); refine box_ 3 27 #[.int .i64 a1_0, .slice A1_1 l1_1.length c1_1, .slice A1_2 l1_2.length c1_2] ?_; intro gb334 hg w5 hbox hb; have BK334 := Aside0.mk (hbox); have GW334 := G_ hg HB; have GE334 := G_ hg HB; have NB333_334 := Nl_ hg BK333; have NB334_333 := Ng_ hg BK333; replace BK333 := Bb_ BK333 hb; replace HB := Ls_ HB hb; clear hb hbox hg))
 repeat (go_quiet (first | ((with_reducible refine gate_dst (N := 2) rfl ?_); (try (refine gate_guard (by rfl) ?_; dsimp only)); refine box_ 2 27 #[.int .i64 a0_0, .slice A0_1 l0_1.length c0_1, .slice A0_2 l0_2.length c0_2] ?_; intro gb333 hg w4 hbox hb; have BK333 := Aside0.mk (hbox); have GW333 := G_ hg HB; have GE333 := G_ hg HB; replace HB := Ls_ HB hb; clear hb hbox hg) | ((with_reducible refine gate_dst (N := 3) rfl ?_); (try (refine gate_guard (by rfl) ?_; dsimp only)); refine box_ 3 27 #[.int .i64 a1_0, .slice A1_1 l1_1.length c1_1, .slice A1_2 l1_2.length c1_2] ?_; intro gb334 hg w5 hbox hb; have BK334 := Aside0.mk (hbox); have GW334 := G_ hg HB; have GE334 := G_ hg HB; have NB333_334 := Nl_ hg BK333; have NB334_333 := Ng_ hg BK333; replace BK333 := Bb_ BK333 hb; replace HB := Ls_ HB hb; clear hb hbox hg)); go_upto_region 1 with (first | ((with_reducible refine gate_dst (N := 2) rfl ?_); (try (refine gate_guard (by rfl) ?_; dsimp only)); refine box_ 2 27 #[.int .i64 a0_0, .slice A0_1 l0_1.length c0_1, .slice A0_2 l0_2.length c0_2] ?_; intro gb333 hg w4 hbox hb; have BK333 := Aside0.mk (hbox); have GW333 := G_ hg HB; have GE333 := G_ hg HB; replace HB := Ls_ HB hb; clear hb hbox hg) | ((with_reducible refine gate_dst (N := 3) rfl ?_); (try (refine gate_guard (by rfl) ?_; dsimp only)); refine box_ 3 27 #[.int .i64 a1_0, .slice A1_1 l1_1.length c1_1, .slice A1_2 l1_2.length c1_2] ?_; intro gb334 hg w5 hbox hb; have BK334 := Aside0.mk (hbox); have GW334 := G_ hg HB; have GE334 := G_ hg HB; have NB333_334 := Nl_ hg BK333; have NB334_333 := Ng_ hg BK333; replace BK333 := Bb_ BK333 hb; replace HB := Ls_ HB hb; clear hb hbox hg)))
 (try simp only [Act.put, List.setIfInBounds_toArray, List.set_cons_zero, List.set_cons_succ])
 go_cut [20] (fun v20 wc => ∃ (kq : Nat) (x20_2 : Bool), v20 = .bool x20_2 ∧ Aside0 (mainsheetref18_Same.j0 kq x20_2 a0_0 l0_1 l0_2 a1_0 l1_1 l1_2 = some r) ∧ Aside0 (kq ≤ k) ∧ Aside0 (wc.heap[gb333]? = some (.cells #[.int .i64 a0_0, (.slice A0_1 l0_1.length c0_1), (.slice A0_2 l0_2.length c0_2)] 27 (0, 0))) ∧ Aside0 (wc.heap[gb334]? = some (.cells #[.int .i64 a1_0, (.slice A1_1 l1_1.length c1_1), (.slice A1_2 l1_2.length c1_2)] 27 (0, 0))) ∧ Aside0 (Below w.heap.size w wc))
 case first =>
  have H := HC3.out
  clear HC3
  replace H := Option.bind_eq_some_iff.mp H
  obtain ⟨t335, A60, H⟩ := H
  replace H : (if t335 = true then (mainsheetref18_Same.j0 k ((l0_2.length : Int) != (l1_2.length : Int)) a0_0 l0_1 l0_2 a1_0 l1_1 l1_2) else (mainsheetref18_Same.j0 k true a0_0 l0_1 l0_2 a1_0 l1_1 l1_2)) = some r := H
  have A6 := Aside0.mk A60
  clear A60
  by_cases c7 : t335 = true
  · subst c7
    have H1 : (mainsheetref18_Same.j0 k ((l0_2.length : Int) != (l1_2.length : Int)) a0_0 l0_1 l0_2 a1_0 l1_1 l1_2) = some r := by rw [if_pos rfl] at H; exact H
    clear H
    have H := H1
    clear H1
    have H' := Aside0.mk H
    clear H
    have hnb8 := NB333_334.out
    have hnc8 := NB334_333.out
    have hcz9_0 : w5.cell? ⟨gb333, 0, none⟩ = some (.int .i64 a0_0) := (blk_cell BK333.out 0).trans rfl
    have hcz9_1 : w5.cell? ⟨gb333, 1, none⟩ = some (.slice A0_1 l0_1.length c0_1) := (blk_cell BK333.out 1).trans rfl
    have hcz9_2 : w5.cell? ⟨gb333, 2, none⟩ = some (.slice A0_2 l0_2.length c0_2) := (blk_cell BK333.out 2).trans rfl
    have hfz9_0 := blk_frozen BK333.out 0
    have hfz9_1 := blk_frozen BK333.out 1
    have hfz9_2 := blk_frozen BK333.out 2
    have hcz10_0 : w5.cell? ⟨gb334, 0, none⟩ = some (.int .i64 a1_0) := (blk_cell BK334.out 0).trans rfl
    have hcz10_1 : w5.cell? ⟨gb334, 1, none⟩ = some (.slice A1_1 l1_1.length c1_1) := (blk_cell BK334.out 1).trans rfl
    have hcz10_2 : w5.cell? ⟨gb334, 2, none⟩ = some (.slice A1_2 l1_2.length c1_2) := (blk_cell BK334.out 2).trans rfl
    have hfz10_0 := blk_frozen BK334.out 0
    have hfz10_1 := blk_frozen BK334.out 1
    have hfz10_2 := blk_frozen BK334.out 2
    go_wp2_with (first | (go_at_call 46; (with_reducible refine (mainsheetref15_Same.calls k a0_0 _ _ l0_1 a1_0 _ _ l1_1 true _ ?side1 ?side2 ?side3 ?side4 A6.out).mono ?_); (case side1 => exact C_ HR0_1); (case side2 => exact HC0_1.out); (case side3 => exact C_ HR1_1); (case side4 => exact HC1_1.out); rintro e w11 ⟨rfl, hb⟩; replace BK333 := Bb_ BK333 hb; replace BK334 := Bb_ BK334 hb; replace HB := Ls_ HB hb; (try clear hb); (try clear hb2); (try clear hk); (try clear hi); have hcz12_0 : w11.cell? ⟨gb333, 0, none⟩ = some (.int .i64 a0_0) := (blk_cell BK333.out 0).trans rfl; have hcz12_1 : w11.cell? ⟨gb333, 1, none⟩ = some (.slice A0_1 l0_1.length c0_1) := (blk_cell BK333.out 1).trans rfl; have hcz12_2 : w11.cell? ⟨gb333, 2, none⟩ = some (.slice A0_2 l0_2.length c0_2) := (blk_cell BK333.out 2).trans rfl; have hfz12_0 := blk_frozen BK333.out 0; have hfz12_1 := blk_frozen BK333.out 1; have hfz12_2 := blk_frozen BK333.out 2; have hcz13_0 : w11.cell? ⟨gb334, 0, none⟩ = some (.int .i64 a1_0) := (blk_cell BK334.out 0).trans rfl; have hcz13_1 : w11.cell? ⟨gb334, 1, none⟩ = some (.slice A1_1 l1_1.length c1_1) := (blk_cell BK334.out 1).trans rfl; have hcz13_2 : w11.cell? ⟨gb334, 2, none⟩ = some (.slice A1_2 l1_2.length c1_2) := (blk_cell BK334.out 2).trans rfl; have hfz13_0 := blk_frozen BK334.out 0; have hfz13_1 := blk_frozen BK334.out 1; have hfz13_2 := blk_frozen BK334.out 2))
    repeat (go_quiet (first | (go_at_call 46; (with_reducible refine (mainsheetref15_Same.calls k a0_0 _ _ l0_1 a1_0 _ _ l1_1 true _ ?side1 ?side2 ?side3 ?side4 A6.out).mono ?_); (case side1 => exact C_ HR0_1); (case side2 => exact HC0_1.out); (case side3 => exact C_ HR1_1); (case side4 => exact HC1_1.out); rintro e w11 ⟨rfl, hb⟩; replace BK333 := Bb_ BK333 hb; replace BK334 := Bb_ BK334 hb; replace HB := Ls_ HB hb; (try clear hb); (try clear hb2); (try clear hk); (try clear hi); have hcz12_0 : w11.cell? ⟨gb333, 0, none⟩ = some (.int .i64 a0_0) := (blk_cell BK333.out 0).trans rfl; have hcz12_1 : w11.cell? ⟨gb333, 1, none⟩ = some (.slice A0_1 l0_1.length c0_1) := (blk_cell BK333.out 1).trans rfl; have hcz12_2 : w11.cell? ⟨gb333, 2, none⟩ = some (.slice A0_2 l0_2.length c0_2) := (blk_cell BK333.out 2).trans rfl; have hfz12_0 := blk_frozen BK333.out 0; have hfz12_1 := blk_frozen BK333.out 1; have hfz12_2 := blk_frozen BK333.out 2; have hcz13_0 : w11.cell? ⟨gb334, 0, none⟩ = some (.int .i64 a1_0) := (blk_cell BK334.out 0).trans rfl; have hcz13_1 : w11.cell? ⟨gb334, 1, none⟩ = some (.slice A1_1 l1_1.length c1_1) := (blk_cell BK334.out 1).trans rfl; have hcz13_2 : w11.cell? ⟨gb334, 2, none⟩ = some (.slice A1_2 l1_2.length c1_2) := (blk_cell BK334.out 2).trans rfl; have hfz13_0 := blk_frozen BK334.out 0; have hfz13_1 := blk_frozen BK334.out 1; have hfz13_2 := blk_frozen BK334.out 2)); try go_wp2_with (first | (go_at_call 46; (with_reducible refine (mainsheetref15_Same.calls k a0_0 _ _ l0_1 a1_0 _ _ l1_1 true _ ?side1 ?side2 ?side3 ?side4 A6.out).mono ?_); (case side1 => exact C_ HR0_1); (case side2 => exact HC0_1.out); (case side3 => exact C_ HR1_1); (case side4 => exact HC1_1.out); rintro e w11 ⟨rfl, hb⟩; replace BK333 := Bb_ BK333 hb; replace BK334 := Bb_ BK334 hb; replace HB := Ls_ HB hb; (try clear hb); (try clear hb2); (try clear hk); (try clear hi); have hcz12_0 : w11.cell? ⟨gb333, 0, none⟩ = some (.int .i64 a0_0) := (blk_cell BK333.out 0).trans rfl; have hcz12_1 : w11.cell? ⟨gb333, 1, none⟩ = some (.slice A0_1 l0_1.length c0_1) := (blk_cell BK333.out 1).trans rfl; have hcz12_2 : w11.cell? ⟨gb333, 2, none⟩ = some (.slice A0_2 l0_2.length c0_2) := (blk_cell BK333.out 2).trans rfl; have hfz12_0 := blk_frozen BK333.out 0; have hfz12_1 := blk_frozen BK333.out 1; have hfz12_2 := blk_frozen BK333.out 2; have hcz13_0 : w11.cell? ⟨gb334, 0, none⟩ = some (.int .i64 a1_0) := (blk_cell BK334.out 0).trans rfl; have hcz13_1 : w11.cell? ⟨gb334, 1, none⟩ = some (.slice A1_1 l1_1.length c1_1) := (blk_cell BK334.out 1).trans rfl; have hcz13_2 : w11.cell? ⟨gb334, 2, none⟩ = some (.slice A1_2 l1_2.length c1_2) := (blk_cell BK334.out 2).trans rfl; have hfz13_0 := blk_frozen BK334.out 0; have hfz13_1 := blk_frozen BK334.out 1; have hfz13_2 := blk_frozen BK334.out 2)))
    go_meet
    case rel => exact ⟨_, (((l0_2.length : Int) != (l1_2.length : Int))), S_, H', ⟨by first | omega | exact Nat.le_refl _⟩, ⟨B_ BK333⟩, ⟨B_ BK334⟩, ⟨L_⟩⟩
  · replace c7 := Bool.eq_false_iff.mpr c7
    subst c7
    have H1 : (mainsheetref18_Same.j0 k true a0_0 l0_1 l0_2 a1_0 l1_1 l1_2) = some r := by rw [if_neg (show ¬ (false = true) by decide)] at H; exact H
    clear H
    have H := H1
    clear H1
    have H' := Aside0.mk H
    clear H
    have hnb14 := NB333_334.out
    have hnc14 := NB334_333.out
    have hcz15_0 : w5.cell? ⟨gb333, 0, none⟩ = some (.int .i64 a0_0) := (blk_cell BK333.out 0).trans rfl
    have hcz15_1 : w5.cell? ⟨gb333, 1, none⟩ = some (.slice A0_1 l0_1.length c0_1) := (blk_cell BK333.out 1).trans rfl
    have hcz15_2 : w5.cell? ⟨gb333, 2, none⟩ = some (.slice A0_2 l0_2.length c0_2) := (blk_cell BK333.out 2).trans rfl
    have hfz15_0 := blk_frozen BK333.out 0
    have hfz15_1 := blk_frozen BK333.out 1
    have hfz15_2 := blk_frozen BK333.out 2
    have hcz16_0 : w5.cell? ⟨gb334, 0, none⟩ = some (.int .i64 a1_0) := (blk_cell BK334.out 0).trans rfl
    have hcz16_1 : w5.cell? ⟨gb334, 1, none⟩ = some (.slice A1_1 l1_1.length c1_1) := (blk_cell BK334.out 1).trans rfl
    have hcz16_2 : w5.cell? ⟨gb334, 2, none⟩ = some (.slice A1_2 l1_2.length c1_2) := (blk_cell BK334.out 2).trans rfl
    have hfz16_0 := blk_frozen BK334.out 0
    have hfz16_1 := blk_frozen BK334.out 1
    have hfz16_2 := blk_frozen BK334.out 2
    go_wp2_with (first | (go_at_call 46; (with_reducible refine (mainsheetref15_Same.calls k a0_0 _ _ l0_1 a1_0 _ _ l1_1 false _ ?side1 ?side2 ?side3 ?side4 A6.out).mono ?_); (case side1 => exact C_ HR0_1); (case side2 => exact HC0_1.out); (case side3 => exact C_ HR1_1); (case side4 => exact HC1_1.out); rintro e w17 ⟨rfl, hb⟩; replace BK333 := Bb_ BK333 hb; replace BK334 := Bb_ BK334 hb; replace HB := Ls_ HB hb; (try clear hb); (try clear hb2); (try clear hk); (try clear hi)))
    repeat (go_quiet (first | (go_at_call 46; (with_reducible refine (mainsheetref15_Same.calls k a0_0 _ _ l0_1 a1_0 _ _ l1_1 false _ ?side1 ?side2 ?side3 ?side4 A6.out).mono ?_); (case side1 => exact C_ HR0_1); (case side2 => exact HC0_1.out); (case side3 => exact C_ HR1_1); (case side4 => exact HC1_1.out); rintro e w17 ⟨rfl, hb⟩; replace BK333 := Bb_ BK333 hb; replace BK334 := Bb_ BK334 hb; replace HB := Ls_ HB hb; (try clear hb); (try clear hb2); (try clear hk); (try clear hi))); try go_wp2_with (first | (go_at_call 46; (with_reducible refine (mainsheetref15_Same.calls k a0_0 _ _ l0_1 a1_0 _ _ l1_1 false _ ?side1 ?side2 ?side3 ?side4 A6.out).mono ?_); (case side1 => exact C_ HR0_1); (case side2 => exact HC0_1.out); (case side3 => exact C_ HR1_1); (case side4 => exact HC1_1.out); rintro e w17 ⟨rfl, hb⟩; replace BK333 := Bb_ BK333 hb; replace BK334 := Bb_ BK334 hb; replace HB := Ls_ HB hb; (try clear hb); (try clear hb2); (try clear hk); (try clear hi))))
    go_meet
    case rel => exact ⟨_, (true), S_, H', ⟨by first | omega | exact Nat.le_refl _⟩, ⟨B_ BK333⟩, ⟨B_ BK334⟩, ⟨L_⟩⟩
 case rest =>
  clear HC3
  try clear c1; try clear p2; try clear c7; try clear c8; try clear c14; try clear c17; try clear hcz10_0; try clear hcz10_1; try clear hcz10_2; try clear hcz12_0; try clear hcz12_1; try clear hcz12_2; try clear hcz13_0; try clear hcz13_1; try clear hcz13_2; try clear hcz15_0; try clear hcz15_1; try clear hcz15_2; try clear hcz16_0; try clear hcz16_1; try clear hcz16_2; try clear hcz9_0; try clear hcz9_1; try clear hcz9_2; try clear hfz10_0; try clear hfz10_1; try clear hfz10_2; try clear hfz12_0; try clear hfz12_1; try clear hfz12_2; try clear hfz13_0; try clear hfz13_1; try clear hfz13_2; try clear hfz15_0; try clear hfz15_1; try clear hfz15_2; try clear hfz16_0; try clear hfz16_1; try clear hfz16_2; try clear hfz9_0; try clear hfz9_1; try clear hfz9_2
  obtain ⟨kq, x20_2, rfl, HA, HJ2, BK333, BK334, HB⟩ := hcut
  cases kq with
  | zero => exact absurd HA.out (by simp [mainsheetref18_Same.j0])
  | succ kj2 =>
   have H := HA.out
   clear HA
   simp only [mainsheetref18_Same.j0] at H
   by_cases c18 : x20_2 = true
   · subst c18
     have H1 : (some false) = some r := by rw [if_pos rfl] at H; exact H
     clear H
     have H := H1
     clear H1
     obtain rfl := Option.some.inj H
     go_wp2
     repeat (go_quiet (fail); try go_wp2)
     go_ret
     exact ⟨E_, L_⟩
   · replace c18 := Bool.eq_false_iff.mpr c18
     subst c18
     have H1 : (mainsheetref18_Same.l0 kj2 (l0_2.length : Int) 0 a0_0 l0_1 l0_2 a1_0 l1_1 l1_2) = some r := by rw [if_neg (show ¬ (false = true) by decide)] at H; exact H
     clear H
     have H := H1
     clear H1
     have H' := Aside0.mk H
     clear H
     have hnb19 := NB333_334.out
     have hnc19 := NB334_333.out
     have hcz20_0 : wc.cell? ⟨gb333, 0, none⟩ = some (.int .i64 a0_0) := (blk_cell BK333.out 0).trans rfl
     have hcz20_1 : wc.cell? ⟨gb333, 1, none⟩ = some (.slice A0_1 l0_1.length c0_1) := (blk_cell BK333.out 1).trans rfl
     have hcz20_2 : wc.cell? ⟨gb333, 2, none⟩ = some (.slice A0_2 l0_2.length c0_2) := (blk_cell BK333.out 2).trans rfl
     have hfz20_0 := blk_frozen BK333.out 0
     have hfz20_1 := blk_frozen BK333.out 1
     have hfz20_2 := blk_frozen BK333.out 2
     go_wp2
     repeat (go_quiet (fail); try go_wp2)
     go_loopg [24] kj2 (fun kq v24 w' => ∃ (x24_2 : Int), v24 = .int .i64 x24_2 ∧ Aside0 (mainsheetref18_Same.l0 kq (l0_2.length : Int) x24_2 a0_0 l0_1 l0_2 a1_0 l1_1 l1_2 = some r) ∧ Aside0 (kq ≤ kj2) ∧ Aside0 (w'.heap[gb333]? = some (.cells #[.int .i64 a0_0, (.slice A0_1 l0_1.length c0_1), (.slice A0_2 l0_2.length c0_2)] 27 (0, 0))) ∧ Aside0 (w'.heap[gb334]? = some (.cells #[.int .i64 a1_0, (.slice A1_1 l1_1.length c1_1), (.slice A1_2 l1_2.length c1_2)] 27 (0, 0))) ∧ Aside0 (Below w.heap.size w w'))
     case atStart => exact ⟨(0), S_, H', ⟨Nat.le_refl _⟩, ⟨B_ BK333⟩, ⟨B_ BK334⟩, ⟨L_⟩⟩
     case round =>
      clear H'
      try clear c1; try clear p2; try clear c7; try clear c8; try clear c14; try clear c17; try clear c18; try clear c19; try clear hcz10_0; try clear hcz10_1; try clear hcz10_2; try clear hcz12_0; try clear hcz12_1; try clear hcz12_2; try clear hcz13_0; try clear hcz13_1; try clear hcz13_2; try clear hcz15_0; try clear hcz15_1; try clear hcz15_2; try clear hcz16_0; try clear hcz16_1; try clear hcz16_2; try clear hcz20_0; try clear hcz20_1; try clear hcz20_2; try clear hcz9_0; try clear hcz9_1; try clear hcz9_2; try clear hfz10_0; try clear hfz10_1; try clear hfz10_2; try clear hfz12_0; try clear hfz12_1; try clear hfz12_2; try clear hfz13_0; try clear hfz13_1; try clear hfz13_2; try clear hfz15_0; try clear hfz15_1; try clear hfz15_2; try clear hfz16_0; try clear hfz16_1; try clear hfz16_2; try clear hfz20_0; try clear hfz20_1; try clear hfz20_2; try clear hfz9_0; try clear hfz9_1; try clear hfz9_2; try clear p2
      obtain ⟨x24_2, rfl, HA, HK2, BK333, BK334, HB⟩ := hrel
      cases gk with
      | zero => exact absurd HA.out (by simp [mainsheetref18_Same.l0])
      | succ k2 =>
       have H := HA.out
       clear HA
       simp only [mainsheetref18_Same.l0] at H
       by_cases c21 : x24_2 < (l0_2.length : Int)
       · rw [if_pos c21] at H
         have c21b0 : decide (x24_2 < (l0_2.length : Int)) = true := decide_eq_true c21
         clear c21
         by_cases c22 : 0 ≤ x24_2
         · rw [if_pos c22] at H
           have c22b0 : decide (0 ≤ x24_2) = true := decide_eq_true c22
           clear c22
           by_cases c23 : x24_2 < (l0_2.length : Int)
           · rw [if_pos c23] at H
             have c23b0 : decide (x24_2 < (l0_2.length : Int)) = true := decide_eq_true c23
             clear c23
             by_cases c24 : x24_2 < (l1_2.length : Int)
             · rw [if_pos c24] at H
               have c24b0 : decide (x24_2 < (l1_2.length : Int)) = true := decide_eq_true c24
               clear c24
               by_cases c25 : (!(((rd_T47 l0_2 x24_2).f0) == ((rd_T47 l1_2 x24_2).f0)) || (!(((rd_T47 l0_2 x24_2).f1) == ((rd_T47 l1_2 x24_2).f1)) || (!(((rd_T47 l0_2 x24_2).f2) == ((rd_T47 l1_2 x24_2).f2))))) = true
               · rw [if_pos c25] at H
                 have c25b0 : (!(((rd_T47 l0_2 x24_2).f0) == ((rd_T47 l1_2 x24_2).f0)) || (!(((rd_T47 l0_2 x24_2).f1) == ((rd_T47 l1_2 x24_2).f1)) || (!(((rd_T47 l0_2 x24_2).f2) == ((rd_T47 l1_2 x24_2).f2))))) = true := c25
                 clear c25
                 obtain rfl := Option.some.inj H
                 have hnb26 := NB333_334.out
                 have hnc26 := NB334_333.out
                 have hcz27_0 : wr.cell? ⟨gb333, 0, none⟩ = some (.int .i64 a0_0) := (blk_cell BK333.out 0).trans rfl
                 have hcz27_1 : wr.cell? ⟨gb333, 1, none⟩ = some (.slice A0_1 l0_1.length c0_1) := (blk_cell BK333.out 1).trans rfl
                 have hcz27_2 : wr.cell? ⟨gb333, 2, none⟩ = some (.slice A0_2 l0_2.length c0_2) := (blk_cell BK333.out 2).trans rfl
                 have hfz27_0 := blk_frozen BK333.out 0
                 have hfz27_1 := blk_frozen BK333.out 1
                 have hfz27_2 := blk_frozen BK333.out 2
                 have p336 : 0 ≤ (x24_2 : Int) := of_decide_eq_true As_
                 have q336 : x24_2 < (l0_2.length : Int) := of_decide_eq_true As_
                 obtain ⟨ad336, e336, hx336_0, hx336_1, hx336_2⟩ := at_T47 HR0_2.out x24_2 p336 q336
                 cases e336
                 replace hx336_0 := Hx_ HB hx336_0
                 replace hx336_1 := Hx_ HB hx336_1
                 replace hx336_2 := Hx_ HB hx336_2
                 replace p336 := eq_true p336
                 replace q336 := eq_true q336
                 have hcz28_0 : wr.cell? ⟨gb334, 0, none⟩ = some (.int .i64 a1_0) := (blk_cell BK334.out 0).trans rfl
                 have hcz28_1 : wr.cell? ⟨gb334, 1, none⟩ = some (.slice A1_1 l1_1.length c1_1) := (blk_cell BK334.out 1).trans rfl
                 have hcz28_2 : wr.cell? ⟨gb334, 2, none⟩ = some (.slice A1_2 l1_2.length c1_2) := (blk_cell BK334.out 2).trans rfl
                 have hfz28_0 := blk_frozen BK334.out 0
                 have hfz28_1 := blk_frozen BK334.out 1
                 have hfz28_2 := blk_frozen BK334.out 2
                 have p337 : 0 ≤ (x24_2 : Int) := of_decide_eq_true As_
                 have q337 : x24_2 < (l1_2.length : Int) := of_decide_eq_true As_
                 obtain ⟨ad337, e337, hx337_0, hx337_1, hx337_2⟩ := at_T47 HR1_2.out x24_2 p337 q337
                 cases e337
                 replace hx337_0 := Hx_ HB hx337_0
                 replace hx337_1 := Hx_ HB hx337_1
                 replace hx337_2 := Hx_ HB hx337_2
                 replace p337 := eq_true p337
                 replace q337 := eq_true q337
                 go_wp2
                 repeat (go_quiet (fail); try go_wp2)
                 go_ret
                 exact ⟨E_, L_⟩
               · rw [if_neg c25] at H
                 have c25b0 : (!(((rd_T47 l0_2 x24_2).f0) == ((rd_T47 l1_2 x24_2).f0)) || (!(((rd_T47 l0_2 x24_2).f1) == ((rd_T47 l1_2 x24_2).f1)) || (!(((rd_T47 l0_2 x24_2).f2) == ((rd_T47 l1_2 x24_2).f2))))) = false := by simpa using c25
                 clear c25
                 have H' := Aside0.mk H
                 clear H
                 have hnb29 := NB333_334.out
                 have hnc29 := NB334_333.out
                 have hcz30_0 : wr.cell? ⟨gb333, 0, none⟩ = some (.int .i64 a0_0) := (blk_cell BK333.out 0).trans rfl
                 have hcz30_1 : wr.cell? ⟨gb333, 1, none⟩ = some (.slice A0_1 l0_1.length c0_1) := (blk_cell BK333.out 1).trans rfl
                 have hcz30_2 : wr.cell? ⟨gb333, 2, none⟩ = some (.slice A0_2 l0_2.length c0_2) := (blk_cell BK333.out 2).trans rfl
                 have hfz30_0 := blk_frozen BK333.out 0
                 have hfz30_1 := blk_frozen BK333.out 1
                 have hfz30_2 := blk_frozen BK333.out 2
                 have p336 : 0 ≤ (x24_2 : Int) := of_decide_eq_true As_
                 have q336 : x24_2 < (l0_2.length : Int) := of_decide_eq_true As_
                 obtain ⟨ad336, e336, hx336_0, hx336_1, hx336_2⟩ := at_T47 HR0_2.out x24_2 p336 q336
                 cases e336
                 replace hx336_0 := Hx_ HB hx336_0
                 replace hx336_1 := Hx_ HB hx336_1
                 replace hx336_2 := Hx_ HB hx336_2
                 replace p336 := eq_true p336
                 replace q336 := eq_true q336
                 have hcz31_0 : wr.cell? ⟨gb334, 0, none⟩ = some (.int .i64 a1_0) := (blk_cell BK334.out 0).trans rfl
                 have hcz31_1 : wr.cell? ⟨gb334, 1, none⟩ = some (.slice A1_1 l1_1.length c1_1) := (blk_cell BK334.out 1).trans rfl
                 have hcz31_2 : wr.cell? ⟨gb334, 2, none⟩ = some (.slice A1_2 l1_2.length c1_2) := (blk_cell BK334.out 2).trans rfl
                 have hfz31_0 := blk_frozen BK334.out 0
                 have hfz31_1 := blk_frozen BK334.out 1
                 have hfz31_2 := blk_frozen BK334.out 2
                 have p337 : 0 ≤ (x24_2 : Int) := of_decide_eq_true As_
                 have q337 : x24_2 < (l1_2.length : Int) := of_decide_eq_true As_
                 obtain ⟨ad337, e337, hx337_0, hx337_1, hx337_2⟩ := at_T47 HR1_2.out x24_2 p337 q337
                 cases e337
                 replace hx337_0 := Hx_ HB hx337_0
                 replace hx337_1 := Hx_ HB hx337_1
                 replace hx337_2 := Hx_ HB hx337_2
                 replace p337 := eq_true p337
                 replace q337 := eq_true q337
                 go_wp2
                 repeat (go_quiet (fail); try go_wp2)
                 go_roundg k2
                 case measure => have := HJ2.out; have := HK2.out; omega
                 case rel => exact ⟨(wrap64 (x24_2 + 1)), S_, H', ⟨by have := HJ2.out; have := HK2.out; omega⟩, ⟨B_ BK333⟩, ⟨B_ BK334⟩, ⟨L_⟩⟩
             · rw [if_neg c24] at H
               exact absurd H (by simp)
           · rw [if_neg c23] at H
             exact absurd H (by simp)
         · rw [if_neg c22] at H
           exact absurd H (by simp)
       · rw [if_neg c21] at H
         have c21b0 : decide (x24_2 < (l0_2.length : Int)) = false := decide_eq_false c21
         clear c21
         obtain rfl := Option.some.inj H
         go_wp2
         repeat (go_quiet (fail); try go_wp2)
         go_ret
         exact ⟨E_, L_⟩

/-! ### mainsheetref18_Next: function 18 -/
def mainsheetref18_Next.l0 : Nat → Int → List (S88) → Int → Int → Option (Int)
 | 0, _, _, _, _ => none
 | k + 1, x3, x8, x9, x10 => if x10 < x9 then (if 0 ≤ x10 then (if x10 < (x8.length : Int) then (if x3 = 0 then (mainsheetref18_Next.l0 k ((rd_T88 x8 x10).f1) x8 x9 (wrap64 (x10 + 1))) else (if ((rd_T88 x8 x10).f1) < x3 then (mainsheetref18_Next.l0 k ((rd_T88 x8 x10).f1) x8 x9 (wrap64 (x10 + 1))) else (mainsheetref18_Next.l0 k x3 x8 x9 (wrap64 (x10 + 1))))) else (none)) else (none)) else (some x3)
def mainsheetref18_Next.f (k : Nat) (a0_0 : Int) (l0_1 : List (S88)) (l0_2 : List (S47)) : Option (Int) := mainsheetref18_Next.l0 k 0 l0_1 (l0_1.length : Int) 0
theorem mainsheetref18_Next.mono_l : ∀ k, (∀ y0 y1 y2 y3, LeO (mainsheetref18_Next.l0 k y0 y1 y2 y3) (mainsheetref18_Next.l0 (k + 1) y0 y1 y2 y3))
 | 0 => fun _ _ _ _ r h => by simp [mainsheetref18_Next.l0] at h
 | k + 1 => by
  have ih0 := mainsheetref18_Next.mono_l k
  · intro y0 y1 y2 y3
    unfold mainsheetref18_Next.l0
    repeat' first
    | (with_reducible exact ih0 _ _ _ _)
    | (with_reducible exact LeO.refl _)
    | (with_reducible exact LeO.none _)
    | (with_reducible refine LeO.ite ?_ ?_)
    | (with_reducible refine LeO.bind ?_ (fun _ => ?_))
    | exact ih0 _ _ _ _
    | exact LeO.none _
    | refine LeO.ite ?_ ?_
    | refine LeO.bind ?_ (fun _ => ?_)
theorem mainsheetref18_Next.mono : ∀ a0 a1 a2 k, LeO (mainsheetref18_Next.f k a0 a1 a2) (mainsheetref18_Next.f (k + 1) a0 a1 a2) := by
 intro a0 a1 a2 k
 have ih0 := mainsheetref18_Next.mono_l k
 unfold mainsheetref18_Next.f
 repeat' first
  | (with_reducible exact ih0 _ _ _ _)
  | (with_reducible exact LeO.refl _)
  | (with_reducible exact LeO.none _)
  | (with_reducible refine LeO.ite ?_ ?_)
  | (with_reducible refine LeO.bind ?_ (fun _ => ?_))
  | exact ih0 _ _ _ _
  | exact LeO.none _
  | refine LeO.ite ?_ ?_
  | refine LeO.bind ?_ (fun _ => ?_)
set_option maxHeartbeats 8000000 in
set_option maxRecDepth 100000 in
theorem mainsheetref18_Next.calls (k : Nat) (a0_0 : Int) (A0_1 : Option Addr) (c0_1 : Nat) (l0_1 : List (S88)) (A0_2 : Option Addr) (c0_2 : Nat) (l0_2 : List (S47)) (r : Int) (w : World) (hr0_1 : Kd.C k88 w A0_1 l0_1.length l0_1) (hc0_1 : l0_1.length ≤ c0_1) (hr0_2 : Kd.C k47 w A0_2 l0_2.length l0_2) (hc0_2 : l0_2.length ≤ c0_2) (h : mainsheetref18_Next.f k a0_0 l0_1 l0_2 = some r) :
 Calls Try.prog 18 #[.agg #[.int .i64 a0_0, .slice A0_1 l0_1.length c0_1, .slice A0_2 l0_2.length c0_2]] w fun e w' => e = .returned (.int .i64 r) ∧ Below w.heap.size w w' := by
 have hu27 := Try.underlying27
 have hu88 := Try.underlying88
 have HR0_1 := Aside0.mk hr0_1
 have HC0_1 := Aside0.mk hc0_1
 clear hr0_1 hc0_1
 have HR0_2 := Aside0.mk hr0_2
 have HC0_2 := Aside0.mk hc0_2
 clear hr0_2 hc0_2
 have HB := Aside0.mk (Below.refl w.heap.size w)
 have H : (mainsheetref18_Next.l0 k 0 l0_1 (l0_1.length : Int) 0) = some r := h
 clear h
 have H' := Aside0.mk H
 clear H
 go_enter Try.func18, Try.ntmps18
 go_wp2_with (first | ((with_reducible refine gate_dst (N := 1) rfl ?_); refine box_ 1 27 #[.int .i64 a0_0, .slice A0_1 l0_1.length c0_1, .slice A0_2 l0_2.length c0_2] ?_; intro gb338 hg w2 hbox hb; have BK338 := Aside0.mk (hbox); have GW338 := G_ hg HB; have GE338 := G_ hg HB; replace HB := Ls_ HB hb; clear hb hbox hg; have hcz3_0 : w2.cell? ⟨gb338, 0, none⟩ = some (.int .i64 a0_0) := (blk_cell BK338.out 0).trans rfl; have hcz3_1 : w2.cell? ⟨gb338, 1, none⟩ = some (.slice A0_1 l0_1.length c0_1) := (blk_cell BK338.out 1).trans rfl; have hcz3_2 : w2.cell? ⟨gb338, 2, none⟩ = some (.slice A0_2 l0_2.length c0_2) := (blk_cell BK338.out 2).trans rfl; have hfz3_0 := blk_frozen BK338.out 0; have hfz3_1 := blk_frozen BK338.out 1; have hfz3_2 := blk_frozen BK338.out 2))
 go_loopg [3, 10] k (fun kq v3 v10 w' => ∃ (x3_1 : Int) (x10_1 : Int), v3 = .int .i64 x3_1 ∧ v10 = .int .i64 x10_1 ∧ Aside0 (mainsheetref18_Next.l0 kq x3_1 l0_1 (l0_1.length : Int) x10_1 = some r) ∧ Aside0 (kq ≤ k) ∧ Aside0 (w'.heap[gb338]? = some (.cells #[.int .i64 a0_0, (.slice A0_1 l0_1.length c0_1), (.slice A0_2 l0_2.length c0_2)] 27 (0, 0))) ∧ Aside0 (Below w.heap.size w w'))
 case atStart => exact ⟨(0), (0), S_, S_, H', ⟨Nat.le_refl _⟩, ⟨B_ BK338⟩, ⟨L_⟩⟩
 case round =>
  clear H'
  try clear c1; try clear p2; try clear hcz3_0; try clear hcz3_1; try clear hcz3_2; try clear hfz3_0; try clear hfz3_1; try clear hfz3_2
  obtain ⟨x3_1, x10_1, rfl, rfl, HA, HK1, BK338, HB⟩ := hrel
  cases gk with
  | zero => exact absurd HA.out (by simp [mainsheetref18_Next.l0])
  | succ k1 =>
   have H := HA.out
   clear HA
   simp only [mainsheetref18_Next.l0] at H
   by_cases c4 : x10_1 < (l0_1.length : Int)
   · rw [if_pos c4] at H
     have c4b0 : decide (x10_1 < (l0_1.length : Int)) = true := decide_eq_true c4
     clear c4
     by_cases c5 : 0 ≤ x10_1
     · rw [if_pos c5] at H
       have c5b0 : decide (0 ≤ x10_1) = true := decide_eq_true c5
       clear c5
       by_cases c6 : x10_1 < (l0_1.length : Int)
       · rw [if_pos c6] at H
         have c6b0 : decide (x10_1 < (l0_1.length : Int)) = true := decide_eq_true c6
         clear c6
         by_cases c7 : x3_1 = 0
         · rw [if_pos c7] at H
           have c7b0 : (x3_1 == 0) = true := beq_iff_eq.mpr c7
           have c7b1 : (x3_1 != 0) = false := bne_eq_false_iff_eq.mpr c7
           clear c7
           have H' := Aside0.mk H
           clear H
           have p339 : 0 ≤ (x10_1 : Int) := of_decide_eq_true As_
           have q339 : x10_1 < (l0_1.length : Int) := of_decide_eq_true As_
           obtain ⟨ad339, e339, hx339_0, hx339_1⟩ := at_T88 HR0_1.out x10_1 p339 q339
           cases e339
           replace hx339_0 := Hx_ HB hx339_0
           replace hx339_1 := Hx_ HB hx339_1
           replace p339 := eq_true p339
           replace q339 := eq_true q339
           go_wp2_with (first | ((with_reducible refine gate_dst (N := 5) rfl ?_); refine box_ 5 88 #[.int .i64 0, .int .i64 0] ?_; intro gb340 hg w8 hbox hb; have BK340 := Aside0.mk (hbox); have GW340 := G_ hg HB; have GE340 := G_ hg HB; have NB338_340 := Nl_ hg BK338; have NB340_338 := Ng_ hg BK338; replace BK338 := Bb_ BK338 hb; replace HB := Ls_ HB hb; clear hb hbox hg; have hnb9 := NB340_338.out; have hnc9 := NB338_340.out; have hcz10_0 : w8.cell? ⟨gb340, 0, none⟩ = some (.int .i64 0) := (blk_cell BK340.out 0).trans rfl; have hcz10_1 : w8.cell? ⟨gb340, 1, none⟩ = some (.int .i64 0) := (blk_cell BK340.out 1).trans rfl; have hfz10_0 := blk_frozen BK340.out 0; have hfz10_1 := blk_frozen BK340.out 1))
           go_roundg k1
           case measure => have := HK1.out; omega
           case rel => exact ⟨((rd_T88 l0_1 x10_1).f1), (wrap64 (x10_1 + 1)), S_, S_, H', ⟨by have := HK1.out; omega⟩, ⟨Bz_ BK338⟩, ⟨L_⟩⟩
         · rw [if_neg c7] at H
           have c7b0 : (x3_1 == 0) = false := beq_eq_false_iff_ne.mpr c7
           have c7b1 : (x3_1 != 0) = true := bne_iff_ne.mpr c7
           by_cases c11 : ((rd_T88 l0_1 x10_1).f1) < x3_1
           · rw [if_pos c11] at H
             have c11b0 : decide (((rd_T88 l0_1 x10_1).f1) < x3_1) = true := decide_eq_true c11
             clear c11
             have H' := Aside0.mk H
             clear H
             have p339 : 0 ≤ (x10_1 : Int) := of_decide_eq_true As_
             have q339 : x10_1 < (l0_1.length : Int) := of_decide_eq_true As_
             obtain ⟨ad339, e339, hx339_0, hx339_1⟩ := at_T88 HR0_1.out x10_1 p339 q339
             cases e339
             replace hx339_0 := Hx_ HB hx339_0
             replace hx339_1 := Hx_ HB hx339_1
             replace p339 := eq_true p339
             replace q339 := eq_true q339
             go_wp2_with (first | ((with_reducible refine gate_dst (N := 5) rfl ?_); refine box_ 5 88 #[.int .i64 0, .int .i64 0] ?_; intro gb340 hg w12 hbox hb; have BK340 := Aside0.mk (hbox); have GW340 := G_ hg HB; have GE340 := G_ hg HB; have NB338_340 := Nl_ hg BK338; have NB340_338 := Ng_ hg BK338; replace BK338 := Bb_ BK338 hb; replace HB := Ls_ HB hb; clear hb hbox hg; have hnb13 := NB340_338.out; have hnc13 := NB338_340.out; have hcz14_0 : w12.cell? ⟨gb340, 0, none⟩ = some (.int .i64 0) := (blk_cell BK340.out 0).trans rfl; have hcz14_1 : w12.cell? ⟨gb340, 1, none⟩ = some (.int .i64 0) := (blk_cell BK340.out 1).trans rfl; have hfz14_0 := blk_frozen BK340.out 0; have hfz14_1 := blk_frozen BK340.out 1))
             go_roundg k1
             case measure => have := HK1.out; omega
             case rel => exact ⟨((rd_T88 l0_1 x10_1).f1), (wrap64 (x10_1 + 1)), S_, S_, H', ⟨by have := HK1.out; omega⟩, ⟨Bz_ BK338⟩, ⟨L_⟩⟩
           · rw [if_neg c11] at H
             have c11b0 : decide (((rd_T88 l0_1 x10_1).f1) < x3_1) = false := decide_eq_false c11
             clear c11
             have H' := Aside0.mk H
             clear H
             have p339 : 0 ≤ (x10_1 : Int) := of_decide_eq_true As_
             have q339 : x10_1 < (l0_1.length : Int) := of_decide_eq_true As_
             obtain ⟨ad339, e339, hx339_0, hx339_1⟩ := at_T88 HR0_1.out x10_1 p339 q339
             cases e339
             replace hx339_0 := Hx_ HB hx339_0
             replace hx339_1 := Hx_ HB hx339_1
             replace p339 := eq_true p339
             replace q339 := eq_true q339
             go_wp2_with (first | ((with_reducible refine gate_dst (N := 5) rfl ?_); refine box_ 5 88 #[.int .i64 0, .int .i64 0] ?_; intro gb340 hg w15 hbox hb; have BK340 := Aside0.mk (hbox); have GW340 := G_ hg HB; have GE340 := G_ hg HB; have NB338_340 := Nl_ hg BK338; have NB340_338 := Ng_ hg BK338; replace BK338 := Bb_ BK338 hb; replace HB := Ls_ HB hb; clear hb hbox hg; have hnb16 := NB340_338.out; have hnc16 := NB338_340.out; have hcz17_0 : w15.cell? ⟨gb340, 0, none⟩ = some (.int .i64 0) := (blk_cell BK340.out 0).trans rfl; have hcz17_1 : w15.cell? ⟨gb340, 1, none⟩ = some (.int .i64 0) := (blk_cell BK340.out 1).trans rfl; have hfz17_0 := blk_frozen BK340.out 0; have hfz17_1 := blk_frozen BK340.out 1))
             go_roundg k1
             case measure => have := HK1.out; omega
             case rel => exact ⟨(x3_1), (wrap64 (x10_1 + 1)), S_, S_, H', ⟨by have := HK1.out; omega⟩, ⟨Bz_ BK338⟩, ⟨L_⟩⟩
       · rw [if_neg c6] at H
         exact absurd H (by simp)
     · rw [if_neg c5] at H
       exact absurd H (by simp)
   · rw [if_neg c4] at H
     have c4b0 : decide (x10_1 < (l0_1.length : Int)) = false := decide_eq_false c4
     clear c4
     obtain rfl := Option.some.inj H
     go_wp2
     go_ret
     exact ⟨E_, L_⟩

end Go.Proofs.Ytlddekjlmkimnaa.C
