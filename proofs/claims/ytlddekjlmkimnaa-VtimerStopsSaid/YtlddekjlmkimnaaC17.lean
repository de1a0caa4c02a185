import Derived.Test.YtlddekjlmkimnaaJ5
import Derived.Test.YtlddekjlmkimnaaJ6
import Derived.Test.YtlddekjlmkimnaaCchk
import Derived.Test.YtlddekjlmkimnaaJ8
import Derived.Test.YtlddekjlmkimnaaC15
import Derived.Test.YtlddekjlmkimnaaHat
-- Written by a program of this session (wip/tools/stub.py, over the kit's print) and by hand; not the kit's print.
namespace Go.Proofs.Ytlddekjlmkimnaa.C
open Go.RowKit Go.Proofs.YtlddekjlmkimnaaW.PrintWords Go.Proofs.YtlddekjlmkimnaaW.PrintLast Go.Proofs.YtlddekjlmkimnaaW.PrintMore
attribute [local go_sem] max2_int min2_int max_two min_two max_three min_three max_four min_four   -- for this text's walks alone
set_option linter.unusedVariables false
set_option linter.unusedSimpArgs false

/-! ### wheel_At: function 30 -/
def wheel_At.f (a0_0 : Int) (l0_1 : List (S88)) (a1 : Int) : Option (Int × Bool) := (wheel_find.f a0_0 l0_1 a1).bind fun bt208 => (if bt208.2 = true then (if 0 ≤ bt208.1 then (if bt208.1 < (l0_1.length : Int) then (some ((rd_T88 l0_1 bt208.1).f1, true)) else (none)) else (none)) else (some (0, false)))
set_option maxHeartbeats 8000000 in
set_option maxRecDepth 100000 in
theorem wheel_At.calls (a0_0 : Int) (A0_1 : Option Addr) (c0_1 : Nat) (l0_1 : List (S88)) (a1 : Int) (r1 : Int) (r2 : Bool) (w : World) (hr0_1 : Kd.C k88 w A0_1 l0_1.length l0_1) (hc0_1 : l0_1.length ≤ c0_1) (h : wheel_At.f a0_0 l0_1 a1 = some (r1, r2)) :
 Calls Try.prog 30 #[.agg #[.int .i64 a0_0, .slice A0_1 l0_1.length c0_1], .int .i64 a1] w fun e w' => e = .returned (.tuple #[.int .i64 r1, .bool r2]) ∧ Below w.heap.size w w' := by
 have hu24 := Try.underlying24
 have HR0_1 := Aside0.mk hr0_1
 have HC0_1 := Aside0.mk hc0_1
 clear hr0_1 hc0_1
 have HB := Aside0.mk (Below.refl w.heap.size w)
 have H : ((wheel_find.f a0_0 l0_1 a1).bind fun bt208 => (if bt208.2 = true then (if 0 ≤ bt208.1 then (if bt208.1 < (l0_1.length : Int) then (some ((rd_T88 l0_1 bt208.1).f1, true)) else (none)) else (none)) else (some (0, false)))) = some (r1, r2) := h
 clear h
 replace H := Option.bind_eq_some_iff.mp H
 obtain ⟨⟨t208, t209⟩, A30, H⟩ := H
 replace H : (if t209 = true then (if 0 ≤ t208 then (if t208 < (l0_1.length : Int) then (some ((rd_T88 l0_1 t208).f1, true)) else (none)) else (none)) else (some (0, false))) = some (r1, r2) := H
 have A3 := Aside0.mk A30
 clear A30
 by_cases c4 : t209 = true
 · subst c4
   have H1 : (if 0 ≤ t208 then (if t208 < (l0_1.length : Int) then (some ((rd_T88 l0_1 t208).f1, true)) else (none)) else (none)) = some (r1, r2) := by rw [if_pos rfl] at H; exact H
   clear H
   have H := H1
   clear H1
   by_cases c5 : 0 ≤ t208
   · rw [if_pos c5] at H
     have c5b0 : decide (0 ≤ t208) = true := decide_eq_true c5
     clear c5
     by_cases c6 : t208 < (l0_1.length : Int)
     · rw [if_pos c6] at H
       have c6b0 : decide (t208 < (l0_1.length : Int)) = true := decide_eq_true c6
       clear c6
       simp only [Option.some.injEq, Prod.mk.injEq] at H
       obtain ⟨rfl, rfl⟩ := H
       go_enter Try.func30, Try.ntmps30
       go_wp2_with (first | ((with_reducible refine gate_dst (N := 2) rfl ?_); refine box_ 2 24 #[.int .i64 a0_0, .slice A0_1 l0_1.length c0_1] ?_; intro gb207 hg w7 hbox hb; have BK207 := Aside0.mk (hbox); have GW207 := G_ hg HB; have GE207 := G_ hg HB; replace HB := Ls_ HB hb; clear hb hbox hg; have hcz8_0 : w7.cell? ⟨gb207, 0, none⟩ = some (.int .i64 a0_0) := (blk_cell BK207.out 0).trans rfl; have hcz8_1 : w7.cell? ⟨gb207, 1, none⟩ = some (.slice A0_1 l0_1.length c0_1) := (blk_cell BK207.out 1).trans rfl; have hfz8_0 := blk_frozen BK207.out 0; have hfz8_1 := blk_frozen BK207.out 1) | ((with_reducible refine gate_callee (f := 59) rfl ?_); refine goesL_ (some 11) rfl rfl Try.func59 (by kernel_rfl) rfl #[.agg #[.int .i64 a0_0, .slice A0_1 l0_1.length c0_1], .int .i64 a1] rfl M_ ?_; (with_reducible refine (wheel_find.calls a0_0 _ _ l0_1 a1 t208 true _ ?side1 ?side2 A3.out).mono ?_); (case side1 => exact C_ HR0_1); (case side2 => exact HC0_1.out); rintro e w9 ⟨rfl, hb⟩; refine ⟨_, rfl, ?_⟩; replace BK207 := Bb_ BK207 hb; replace HB := Ls_ HB hb; (try clear hb); (try clear hb2); (try clear hk); (try clear hi); have hcz10_0 : w9.cell? ⟨gb207, 0, none⟩ = some (.int .i64 a0_0) := (blk_cell BK207.out 0).trans rfl; have hcz10_1 : w9.cell? ⟨gb207, 1, none⟩ = some (.slice A0_1 l0_1.length c0_1) := (blk_cell BK207.out 1).trans rfl; have hfz10_0 := blk_frozen BK207.out 0; have hfz10_1 := blk_frozen BK207.out 1; have p210 : 0 ≤ (t208 : Int) := of_decide_eq_true As_; have q210 : t208 < (l0_1.length : Int) := of_decide_eq_true As_; obtain ⟨ad210, e210, hx210_0, hx210_1⟩ := at_T88 HR0_1.out t208 p210 q210; cases e210; replace hx210_0 := Hx_ HB hx210_0; replace hx210_1 := Hx_ HB hx210_1; replace p210 := eq_true p210; replace q210 := eq_true q210))
       go_ret2
       exact ⟨E_, L_⟩
     · rw [if_neg c6] at H
       exact absurd H (by simp)
   · rw [if_neg c5] at H
     exact absurd H (by simp)
 · replace c4 := Bool.eq_false_iff.mpr c4
   subst c4
   have H1 : (some (0, false)) = some (r1, r2) := by rw [if_neg (show ¬ (false = true) by decide)] at H; exact H
   clear H
   have H := H1
   clear H1
   simp only [Option.some.injEq, Prod.mk.injEq] at H
   obtain ⟨rfl, rfl⟩ := H
   go_enter Try.func30, Try.ntmps30
   go_wp2_with (first | ((with_reducible refine gate_dst (N := 2) rfl ?_); refine box_ 2 24 #[.int .i64 a0_0, .slice A0_1 l0_1.length c0_1] ?_; intro gb207 hg w11 hbox hb; have BK207 := Aside0.mk (hbox); have GW207 := G_ hg HB; have GE207 := G_ hg HB; replace HB := Ls_ HB hb; clear hb hbox hg; have hcz12_0 : w11.cell? ⟨gb207, 0, none⟩ = some (.int .i64 a0_0) := (blk_cell BK207.out 0).trans rfl; have hcz12_1 : w11.cell? ⟨gb207, 1, none⟩ = some (.slice A0_1 l0_1.length c0_1) := (blk_cell BK207.out 1).trans rfl; have hfz12_0 := blk_frozen BK207.out 0; have hfz12_1 := blk_frozen BK207.out 1) | ((with_reducible refine gate_callee (f := 59) rfl ?_); refine goesL_ (some 11) rfl rfl Try.func59 (by kernel_rfl) rfl #[.agg #[.int .i64 a0_0, .slice A0_1 l0_1.length c0_1], .int .i64 a1] rfl M_ ?_; (with_reducible refine (wheel_find.calls a0_0 _ _ l0_1 a1 t208 false _ ?side1 ?side2 A3.out).mono ?_); (case side1 => exact C_ HR0_1); (case side2 => exact HC0_1.out); rintro e w13 ⟨rfl, hb⟩; refine ⟨_, rfl, ?_⟩; replace BK207 := Bb_ BK207 hb; replace HB := Ls_ HB hb; (try clear hb); (try clear hb2); (try clear hk); (try clear hi)))
   go_ret2
   exact ⟨E_, L_⟩

/-! ### vtimer_alarmed: function 31 -/
def vtimer_alarmed.f (a0 : Int) : Option (Int) := some (wrap64 (a0 - 1))
set_option maxHeartbeats 8000000 in
set_option maxRecDepth 100000 in
theorem vtimer_alarmed.calls (a0 : Int) (r : Int) (w : World) (h : vtimer_alarmed.f a0 = some r) :
 Calls Try.prog 31 #[.int .i64 a0] w fun e w' => e = .returned (.int .i64 r) ∧ Drawn0 w w' := by
 have H : (some (wrap64 (a0 - 1))) = some r := h
 clear h
 obtain rfl := Option.some.inj H
 go_enter Try.func31, Try.ntmps31
 go_wp2
 go_ret
 exact ⟨by first | rfl | (simp; done) | (simp [*]; done), by repeat (first | exact Drawn0.refl _ | apply Drawn0.step)⟩

/-! ### vtimer_Check: function 9 -/
mutual
def vtimer_Check.l0 : Nat → Int → List (S47) → Int → Int → Int → List (S88) → List (S47) → Option (Int)
 | 0, _, _, _, _, _, _, _ => none
 | k + 1, x3, x12, x13, x14, x212000, x212001, x212002 => if x14 < x13 then (if 0 ≤ x14 then (if x14 < (x12.length : Int) then ((vtimer_alarm.f ((rd_T47 x12 x14).f0) ((rd_T47 x12 x14).f1) ((rd_T47 x12 x14).f2)).bind fun t214 => (if t214 = true then (if ((rd_T47 x12 x14).f0) ≤ x3 then (some 280) else (vtimer_Check.l0 k ((rd_T47 x12 x14).f0) x12 x13 (wrap64 (x14 + 1)) x212000 x212001 x212002)) else (some 280))) else (none)) else (none)) else ((wheel_Check.f k x212000 x212001).bind fun t215 => (if t215 = 0 then (vtimer_Check.l1 k 1 x212000 x212001 x212002) else (some 280)))
def vtimer_Check.l1 : Nat → Int → Int → List (S88) → List (S47) → Option (Int)
 | 0, _, _, _, _ => none
 | k + 1, x6, x212000, x212001, x212002 => if x6 ≤ 16 then ((vtimer_at.f x212002 x6).bind fun bt216 => ((vtimer_alarmed.f x6).bind fun t218 => ((wheel_At.f x212000 x212001 t218).bind fun bt219 => (if (bt219.2 != bt216.2) = true then (some 280) else (vtimer_Check.l1 k (wrap64 (x6 + 1)) x212000 x212001 x212002))))) else (some 0)
end
def vtimer_Check.f (k : Nat) (a0_0 : Int) (l0_1 : List (S88)) (l0_2 : List (S47)) : Option (Int) := vtimer_Check.l0 k 0 l0_2 (l0_2.length : Int) 0 a0_0 l0_1 l0_2
theorem vtimer_Check.mono_l : ∀ k, (∀ y0 y1 y2 y3 y4 y5 y6, LeO (vtimer_Check.l0 k y0 y1 y2 y3 y4 y5 y6) (vtimer_Check.l0 (k + 1) y0 y1 y2 y3 y4 y5 y6)) ∧ (∀ y0 y1 y2 y3, LeO (vtimer_Check.l1 k y0 y1 y2 y3) (vtimer_Check.l1 (k + 1) y0 y1 y2 y3))
 | 0 => ⟨fun _ _ _ _ _ _ _ r h => by simp [vtimer_Check.l0] at h, fun _ _ _ _ r h => by simp [vtimer_Check.l1] at h⟩
 | k + 1 => by
  obtain ⟨ih0, ih1⟩ := vtimer_Check.mono_l k
  refine ⟨?_, ?_⟩
  · intro y0 y1 y2 y3 y4 y5 y6
    unfold vtimer_Check.l0
    repeat' first
    | (with_reducible exact ih0 _ _ _ _ _ _ _)
    | (with_reducible exact ih1 _ _ _ _)
    | (with_reducible exact wheel_Check.mono _ _ _)
    | (with_reducible exact LeO.refl _)
    | (with_reducible exact LeO.none _)
    | (with_reducible refine LeO.ite ?_ ?_)
    | (with_reducible refine LeO.bind ?_ (fun _ => ?_))
    | exact ih0 _ _ _ _ _ _ _
    | exact ih1 _ _ _ _
    | exact wheel_Check.mono _ _ _
    | exact LeO.none _
    | refine LeO.ite ?_ ?_
    | refine LeO.bind ?_ (fun _ => ?_)
  · intro y0 y1 y2 y3
    unfold vtimer_Check.l1
    repeat' first
    | (with_reducible exact ih0 _ _ _ _ _ _ _)
    | (with_reducible exact ih1 _ _ _ _)
    | (with_reducible exact wheel_Check.mono _ _ _)
    | (with_reducible exact LeO.refl _)
    | (with_reducible exact LeO.none _)
    | (with_reducible refine LeO.ite ?_ ?_)
    | (with_reducible refine LeO.bind ?_ (fun _ => ?_))
    | exact ih0 _ _ _ _ _ _ _
    | exact ih1 _ _ _ _
    | exact wheel_Check.mono _ _ _
    | exact LeO.none _
    | refine LeO.ite ?_ ?_
    | refine LeO.bind ?_ (fun _ => ?_)
theorem vtimer_Check.mono : ∀ a0 a1 a2 k, LeO (vtimer_Check.f k a0 a1 a2) (vtimer_Check.f (k + 1) a0 a1 a2) := by
 intro a0 a1 a2 k
 obtain ⟨ih0, ih1⟩ := vtimer_Check.mono_l k
 unfold vtimer_Check.f
 repeat' first
  | (with_reducible exact ih0 _ _ _ _ _ _ _)
  | (with_reducible exact ih1 _ _ _ _)
  | (with_reducible exact wheel_Check.mono _ _ _)
  | (with_reducible exact LeO.refl _)
  | (with_reducible exact LeO.none _)
  | (with_reducible refine LeO.ite ?_ ?_)
  | (with_reducible refine LeO.bind ?_ (fun _ => ?_))
  | exact ih0 _ _ _ _ _ _ _
  | exact ih1 _ _ _ _
  | exact wheel_Check.mono _ _ _
  | exact LeO.none _
  | refine LeO.ite ?_ ?_
  | refine LeO.bind ?_ (fun _ => ?_)
def vtimer_Check.T15 : Bool × List (List Nat × List Nat) := (true, [([], []), ([0], [0]), ([], []), ([2], [2]), ([1, 3, 3], [1, 3]), ([4], [4]), ([5], [5]), ([5], [5]), ([6, 4, 0, 1, 2, 3, 4, 5, 6], [6]), ([7, 8, 0, 1, 2, 3, 4, 5, 6, 7, 8], [7])])
def vtimer_Check.B15 : List Nat := [0, 1, 0, 4, 15, 31, 63, 63, 127, 511]
theorem vtimer_Check.tab15 : rtab .any (opsOf Try.f9 15) = vtimer_Check.T15 := by kernel_rfl
theorem vtimer_Check.bits15 : waitsOk vtimer_Check.T15.2 vtimer_Check.B15 = true := by kernel_rfl
set_option maxHeartbeats 8000000 in
set_option maxRecDepth 100000 in
theorem vtimer_Check.calls (k : Nat) (a0_0 : Int) (A0_1 : Option Addr) (c0_1 : Nat) (l0_1 : List (S88)) (A0_2 : Option Addr) (c0_2 : Nat) (l0_2 : List (S47)) (r : Int) (w : World) (hr0_1 : Kd.C k88 w A0_1 l0_1.length l0_1) (hc0_1 : l0_1.length ≤ c0_1) (hr0_2 : Kd.C k47 w A0_2 l0_2.length l0_2) (hc0_2 : l0_2.length ≤ c0_2) (h : vtimer_Check.f k a0_0 l0_1 l0_2 = some r) :
 Calls Try.prog 9 #[.agg #[.int .i64 a0_0, .slice A0_1 l0_1.length c0_1, .slice A0_2 l0_2.length c0_2]] w fun e w' => e = .returned (.int .i64 r) ∧ Below w.heap.size w w' := by
 have hu27 := Try.underlying27
 have hu47 := Try.underlying47
 have hu24 := Try.underlying24
 have HR0_1 := Aside0.mk hr0_1
 have HC0_1 := Aside0.mk hc0_1
 clear hr0_1 hc0_1
 have HR0_2 := Aside0.mk hr0_2
 have HC0_2 := Aside0.mk hc0_2
 clear hr0_2 hc0_2
 have HB := Aside0.mk (Below.refl w.heap.size w)
 have H : (vtimer_Check.l0 k 0 l0_2 (l0_2.length : Int) 0 a0_0 l0_1 l0_2) = some r := h
 clear h
 have H' := Aside0.mk H
 clear H
 go_enter Try.func9, Try.ntmps9
 go_wp2_with (first | ((with_reducible refine gate_dst (N := 1) rfl ?_); refine box_ 1 27 #[.int .i64 a0_0, .slice A0_1 l0_1.length c0_1, .slice A0_2 l0_2.length c0_2] ?_; intro gb211 hg w2 hbox hb; have BK211 := Aside0.mk (hbox); have GW211 := G_ hg HB; have GE211 := G_ hg HB; replace HB := Ls_ HB hb; clear hb hbox hg; have hcz3_0 : w2.cell? ⟨gb211, 0, none⟩ = some (.int .i64 a0_0) := (blk_cell BK211.out 0).trans rfl; have hcz3_1 : w2.cell? ⟨gb211, 1, none⟩ = some (.slice A0_1 l0_1.length c0_1) := (blk_cell BK211.out 1).trans rfl; have hcz3_2 : w2.cell? ⟨gb211, 2, none⟩ = some (.slice A0_2 l0_2.length c0_2) := (blk_cell BK211.out 2).trans rfl; have hfz3_0 := blk_frozen BK211.out 0; have hfz3_1 := blk_frozen BK211.out 1; have hfz3_2 := blk_frozen BK211.out 2))
 go_loopg [3, 14] k (fun kq v3 v14 w' => ∃ (x3_1 : Int) (x14_1 : Int), v3 = .int .i64 x3_1 ∧ v14 = .int .i64 x14_1 ∧ Aside0 (vtimer_Check.l0 kq x3_1 l0_2 (l0_2.length : Int) x14_1 a0_0 l0_1 l0_2 = some r) ∧ Aside0 (kq ≤ k) ∧ Aside0 (w'.heap[gb211]? = some (.cells #[.int .i64 a0_0, (.slice A0_1 l0_1.length c0_1), (.slice A0_2 l0_2.length c0_2)] 27 (0, 0))) ∧ Aside0 (Below w.heap.size w w'))
 case atStart => exact ⟨(0), (0), S_, S_, H', ⟨Nat.le_refl _⟩, ⟨B_ BK211⟩, ⟨L_⟩⟩
 case round =>
  clear H'
  try clear p2; try clear hcz3_0; try clear hcz3_1; try clear hcz3_2; try clear hfz3_0; try clear hfz3_1; try clear hfz3_2
  obtain ⟨x3_1, x14_1, rfl, rfl, HA, HK1, BK211, HB⟩ := hrel
  cases gk with
  | zero => exact absurd HA.out (by simp [vtimer_Check.l0])
  | succ k1 =>
   have H := HA.out
   clear HA
   simp only [vtimer_Check.l0] at H
   by_cases c4 : x14_1 < (l0_2.length : Int)
   · rw [if_pos c4] at H
     have c4b0 : decide (x14_1 < (l0_2.length : Int)) = true := decide_eq_true c4
     clear c4
     by_cases c5 : 0 ≤ x14_1
     · rw [if_pos c5] at H
       have c5b0 : decide (0 ≤ x14_1) = true := decide_eq_true c5
       clear c5
       by_cases c6 : x14_1 < (l0_2.length : Int)
       · rw [if_pos c6] at H
         have c6b0 : decide (x14_1 < (l0_2.length : Int)) = true := decide_eq_true c6
         clear c6
         replace H := Option.bind_eq_some_iff.mp H
         obtain ⟨t214, A70, H⟩ := H
         replace H : (if t214 = true then (if ((rd_T47 l0_2 x14_1).f0) ≤ x3_1 then (some 280) else (vtimer_Check.l0 k1 ((rd_T47 l0_2 x14_1).f0) l0_2 (l0_2.length : Int) (wrap64 (x14_1 + 1)) a0_0 l0_1 l0_2)) else (some 280)) = some r := H
         have A7 := Aside0.mk A70
         clear A70
         by_cases c8 : t214 = true
         · subst c8
           have H1 : (if ((rd_T47 l0_2 x14_1).f0) ≤ x3_1 then (some 280) else (vtimer_Check.l0 k1 ((rd_T47 l0_2 x14_1).f0) l0_2 (l0_2.length : Int) (wrap64 (x14_1 + 1)) a0_0 l0_1 l0_2)) = some r := by rw [if_pos rfl] at H; exact H
           clear H
           have H := H1
           clear H1
           by_cases c9 : ((rd_T47 l0_2 x14_1).f0) ≤ x3_1
           · rw [if_pos c9] at H
             have c9b0 : decide (((rd_T47 l0_2 x14_1).f0) ≤ x3_1) = true := decide_eq_true c9
             clear c9
             obtain rfl := Option.some.inj H
             have p212 : 0 ≤ (x14_1 : Int) := of_decide_eq_true As_
             have q212 : x14_1 < (l0_2.length : Int) := of_decide_eq_true As_
             obtain ⟨ad212, e212, hx212_0, hx212_1, hx212_2⟩ := at_T47 HR0_2.out x14_1 p212 q212
             cases e212
             replace hx212_0 := Hx_ HB hx212_0
             replace hx212_1 := Hx_ HB hx212_1
             replace hx212_2 := Hx_ HB hx212_2
             replace p212 := eq_true p212
             replace q212 := eq_true q212
             go_wp2_with (first | ((with_reducible refine gate_dst (N := 5) rfl ?_); refine box_ 5 47 #[.int .i64 0, .int .i64 0, .int .i64 0] ?_; intro gb213 hg w10 hbox hb; have BK213 := Aside0.mk (hbox); have GW213 := G_ hg HB; have GE213 := G_ hg HB; have NB211_213 := Nl_ hg BK211; have NB213_211 := Ng_ hg BK211; replace BK211 := Bb_ BK211 hb; replace HB := Ls_ HB hb; clear hb hbox hg; have hnb11 := NB213_211.out; have hnc11 := NB211_213.out; have hcz12_0 : w10.cell? ⟨gb213, 0, none⟩ = some (.int .i64 0) := (blk_cell BK213.out 0).trans rfl; have hcz12_1 : w10.cell? ⟨gb213, 1, none⟩ = some (.int .i64 0) := (blk_cell BK213.out 1).trans rfl; have hcz12_2 : w10.cell? ⟨gb213, 2, none⟩ = some (.int .i64 0) := (blk_cell BK213.out 2).trans rfl; have hfz12_0 := blk_frozen BK213.out 0; have hfz12_1 := blk_frozen BK213.out 1; have hfz12_2 := blk_frozen BK213.out 2) | ((with_reducible refine gate_callee (f := 27) rfl ?_); refine goesL_ (some 19) rfl rfl Try.func27 (by kernel_rfl) rfl #[.agg #[.int .i64 ((rd_T47 l0_2 x14_1).f0), .int .i64 ((rd_T47 l0_2 x14_1).f1), .int .i64 ((rd_T47 l0_2 x14_1).f2)]] rfl M_ ?_; (with_reducible refine (vtimer_alarm.calls ((rd_T47 l0_2 x14_1).f0) ((rd_T47 l0_2 x14_1).f1) ((rd_T47 l0_2 x14_1).f2) true _ A7.out).mono ?_); rintro e w13 ⟨rfl, hb⟩; refine ⟨_, rfl, ?_⟩; replace BK211 := Aside0.mk (blk_below (Bz_ BK211) hb); replace BK213 := Aside0.mk (blk_below (g := gb213) (o := .cells #[.int .i64 ((rd_T47 l0_2 x14_1).f0), .int .i64 ((rd_T47 l0_2 x14_1).f1), .int .i64 ((rd_T47 l0_2 x14_1).f2)] 47 (0, 0)) (by (with_reducible repeat (first | refine blk_drewN ?_ _ | refine blk_drew ?_ | refine blk_alloc ?_ _)); refine blk_put (cs := #[.int .i64 ((rd_T47 l0_2 x14_1).f0), .int .i64 ((rd_T47 l0_2 x14_1).f1), .int .i64 0]) ?_ 2 _ rfl; (with_reducible repeat (first | refine blk_drewN ?_ _ | refine blk_drew ?_ | refine blk_alloc ?_ _)); refine blk_put (cs := #[.int .i64 ((rd_T47 l0_2 x14_1).f0), .int .i64 0, .int .i64 0]) ?_ 1 _ rfl; (with_reducible repeat (first | refine blk_drewN ?_ _ | refine blk_drew ?_ | refine blk_alloc ?_ _)); refine blk_put (cs := #[.int .i64 0, .int .i64 0, .int .i64 0]) ?_ 0 _ rfl; (with_reducible repeat (first | refine blk_drewN ?_ _ | refine blk_drew ?_ | refine blk_alloc ?_ _)); exact BK213.out) hb); replace HB := Ls_ HB hb; (try clear hb); (try clear hb2); (try clear hk); (try clear hi); have hcz14_0 : w13.cell? ⟨gb213, 0, none⟩ = some (.int .i64 ((rd_T47 l0_2 x14_1).f0)) := (blk_cell BK213.out 0).trans rfl; have hcz14_1 : w13.cell? ⟨gb213, 1, none⟩ = some (.int .i64 ((rd_T47 l0_2 x14_1).f1)) := (blk_cell BK213.out 1).trans rfl; have hcz14_2 : w13.cell? ⟨gb213, 2, none⟩ = some (.int .i64 ((rd_T47 l0_2 x14_1).f2)) := (blk_cell BK213.out 2).trans rfl; have hfz14_0 := blk_frozen BK213.out 0; have hfz14_1 := blk_frozen BK213.out 1; have hfz14_2 := blk_frozen BK213.out 2))
             go_ret
             exact ⟨E_, L_⟩
           · rw [if_neg c9] at H
             have c9b0 : decide (((rd_T47 l0_2 x14_1).f0) ≤ x3_1) = false := decide_eq_false c9
             clear c9
             have H' := Aside0.mk H
             clear H
             have p212 : 0 ≤ (x14_1 : Int) := of_decide_eq_true As_
             have q212 : x14_1 < (l0_2.length : Int) := of_decide_eq_true As_
             obtain ⟨ad212, e212, hx212_0, hx212_1, hx212_2⟩ := at_T47 HR0_2.out x14_1 p212 q212
             cases e212
             replace hx212_0 := Hx_ HB hx212_0
             replace hx212_1 := Hx_ HB hx212_1
             replace hx212_2 := Hx_ HB hx212_2
             replace p212 := eq_true p212
             replace q212 := eq_true q212
             go_wp2_with (first | ((with_reducible refine gate_dst (N := 5) rfl ?_); refine box_ 5 47 #[.int .i64 0, .int .i64 0, .int .i64 0] ?_; intro gb213 hg w15 hbox hb; have BK213 := Aside0.mk (hbox); have GW213 := G_ hg HB; have GE213 := G_ hg HB; have NB211_213 := Nl_ hg BK211; have NB213_211 := Ng_ hg BK211; replace BK211 := Bb_ BK211 hb; replace HB := Ls_ HB hb; clear hb hbox hg; have hnb16 := NB213_211.out; have hnc16 := NB211_213.out; have hcz17_0 : w15.cell? ⟨gb213, 0, none⟩ = some (.int .i64 0) := (blk_cell BK213.out 0).trans rfl; have hcz17_1 : w15.cell? ⟨gb213, 1, none⟩ = some (.int .i64 0) := (blk_cell BK213.out 1).trans rfl; have hcz17_2 : w15.cell? ⟨gb213, 2, none⟩ = some (.int .i64 0) := (blk_cell BK213.out 2).trans rfl; have hfz17_0 := blk_frozen BK213.out 0; have hfz17_1 := blk_frozen BK213.out 1; have hfz17_2 := blk_frozen BK213.out 2) | ((with_reducible refine gate_callee (f := 27) rfl ?_); refine goesL_ (some 19) rfl rfl Try.func27 (by kernel_rfl) rfl #[.agg #[.int .i64 ((rd_T47 l0_2 x14_1).f0), .int .i64 ((rd_T47 l0_2 x14_1).f1), .int .i64 ((rd_T47 l0_2 x14_1).f2)]] rfl M_ ?_; (with_reducible refine (vtimer_alarm.calls ((rd_T47 l0_2 x14_1).f0) ((rd_T47 l0_2 x14_1).f1) ((rd_T47 l0_2 x14_1).f2) true _ A7.out).mono ?_); rintro e w18 ⟨rfl, hb⟩; refine ⟨_, rfl, ?_⟩; replace BK211 := Aside0.mk (blk_below (Bz_ BK211) hb); replace BK213 := Aside0.mk (blk_below (g := gb213) (o := .cells #[.int .i64 ((rd_T47 l0_2 x14_1).f0), .int .i64 ((rd_T47 l0_2 x14_1).f1), .int .i64 ((rd_T47 l0_2 x14_1).f2)] 47 (0, 0)) (by (with_reducible repeat (first | refine blk_drewN ?_ _ | refine blk_drew ?_ | refine blk_alloc ?_ _)); refine blk_put (cs := #[.int .i64 ((rd_T47 l0_2 x14_1).f0), .int .i64 ((rd_T47 l0_2 x14_1).f1), .int .i64 0]) ?_ 2 _ rfl; (with_reducible repeat (first | refine blk_drewN ?_ _ | refine blk_drew ?_ | refine blk_alloc ?_ _)); refine blk_put (cs := #[.int .i64 ((rd_T47 l0_2 x14_1).f0), .int .i64 0, .int .i64 0]) ?_ 1 _ rfl; (with_reducible repeat (first | refine blk_drewN ?_ _ | refine blk_drew ?_ | refine blk_alloc ?_ _)); refine blk_put (cs := #[.int .i64 0, .int .i64 0, .int .i64 0]) ?_ 0 _ rfl; (with_reducible repeat (first | refine blk_drewN ?_ _ | refine blk_drew ?_ | refine blk_alloc ?_ _)); exact BK213.out) hb); replace HB := Ls_ HB hb; (try clear hb); (try clear hb2); (try clear hk); (try clear hi); have hcz19_0 : w18.cell? ⟨gb213, 0, none⟩ = some (.int .i64 ((rd_T47 l0_2 x14_1).f0)) := (blk_cell BK213.out 0).trans rfl; have hcz19_1 : w18.cell? ⟨gb213, 1, none⟩ = some (.int .i64 ((rd_T47 l0_2 x14_1).f1)) := (blk_cell BK213.out 1).trans rfl; have hcz19_2 : w18.cell? ⟨gb213, 2, none⟩ = some (.int .i64 ((rd_T47 l0_2 x14_1).f2)) := (blk_cell BK213.out 2).trans rfl; have hfz19_0 := blk_frozen BK213.out 0; have hfz19_1 := blk_frozen BK213.out 1; have hfz19_2 := blk_frozen BK213.out 2))
             go_roundg k1
             case measure => have := HK1.out; omega
             case rel => exact ⟨((rd_T47 l0_2 x14_1).f0), (wrap64 (x14_1 + 1)), S_, S_, H', ⟨by have := HK1.out; omega⟩, ⟨B_ BK211⟩, ⟨L_⟩⟩
         · replace c8 := Bool.eq_false_iff.mpr c8
           subst c8
           have H1 : (some 280) = some r := by rw [if_neg (show ¬ (false = true) by decide)] at H; exact H
           clear H
           have H := H1
           clear H1
           obtain rfl := Option.some.inj H
           have p212 : 0 ≤ (x14_1 : Int) := of_decide_eq_true As_
           have q212 : x14_1 < (l0_2.length : Int) := of_decide_eq_true As_
           obtain ⟨ad212, e212, hx212_0, hx212_1, hx212_2⟩ := at_T47 HR0_2.out x14_1 p212 q212
           cases e212
           replace hx212_0 := Hx_ HB hx212_0
           replace hx212_1 := Hx_ HB hx212_1
           replace hx212_2 := Hx_ HB hx212_2
           replace p212 := eq_true p212
           replace q212 := eq_true q212
           go_wp2_with (first | ((with_reducible refine gate_dst (N := 5) rfl ?_); refine box_ 5 47 #[.int .i64 0, .int .i64 0, .int .i64 0] ?_; intro gb213 hg w20 hbox hb; have BK213 := Aside0.mk (hbox); have GW213 := G_ hg HB; have GE213 := G_ hg HB; have NB211_213 := Nl_ hg BK211; have NB213_211 := Ng_ hg BK211; replace BK211 := Bb_ BK211 hb; replace HB := Ls_ HB hb; clear hb hbox hg; have hnb21 := NB213_211.out; have hnc21 := NB211_213.out; have hcz22_0 : w20.cell? ⟨gb213, 0, none⟩ = some (.int .i64 0) := (blk_cell BK213.out 0).trans rfl; have hcz22_1 : w20.cell? ⟨gb213, 1, none⟩ = some (.int .i64 0) := (blk_cell BK213.out 1).trans rfl; have hcz22_2 : w20.cell? ⟨gb213, 2, none⟩ = some (.int .i64 0) := (blk_cell BK213.out 2).trans rfl; have hfz22_0 := blk_frozen BK213.out 0; have hfz22_1 := blk_frozen BK213.out 1; have hfz22_2 := blk_frozen BK213.out 2) | ((with_reducible refine gate_callee (f := 27) rfl ?_); refine goesL_ (some 19) rfl rfl Try.func27 (by kernel_rfl) rfl #[.agg #[.int .i64 ((rd_T47 l0_2 x14_1).f0), .int .i64 ((rd_T47 l0_2 x14_1).f1), .int .i64 ((rd_T47 l0_2 x14_1).f2)]] rfl M_ ?_; (with_reducible refine (vtimer_alarm.calls ((rd_T47 l0_2 x14_1).f0) ((rd_T47 l0_2 x14_1).f1) ((rd_T47 l0_2 x14_1).f2) false _ A7.out).mono ?_); rintro e w23 ⟨rfl, hb⟩; refine ⟨_, rfl, ?_⟩; replace BK211 := Aside0.mk (blk_below (Bz_ BK211) hb); replace BK213 := Aside0.mk (blk_below (g := gb213) (o := .cells #[.int .i64 ((rd_T47 l0_2 x14_1).f0), .int .i64 ((rd_T47 l0_2 x14_1).f1), .int .i64 ((rd_T47 l0_2 x14_1).f2)] 47 (0, 0)) (by (with_reducible repeat (first | refine blk_drewN ?_ _ | refine blk_drew ?_ | refine blk_alloc ?_ _)); refine blk_put (cs := #[.int .i64 ((rd_T47 l0_2 x14_1).f0), .int .i64 ((rd_T47 l0_2 x14_1).f1), .int .i64 0]) ?_ 2 _ rfl; (with_reducible repeat (first | refine blk_drewN ?_ _ | refine blk_drew ?_ | refine blk_alloc ?_ _)); refine blk_put (cs := #[.int .i64 ((rd_T47 l0_2 x14_1).f0), .int .i64 0, .int .i64 0]) ?_ 1 _ rfl; (with_reducible repeat (first | refine blk_drewN ?_ _ | refine blk_drew ?_ | refine blk_alloc ?_ _)); refine blk_put (cs := #[.int .i64 0, .int .i64 0, .int .i64 0]) ?_ 0 _ rfl; (with_reducible repeat (first | refine blk_drewN ?_ _ | refine blk_drew ?_ | refine blk_alloc ?_ _)); exact BK213.out) hb); replace HB := Ls_ HB hb; (try clear hb); (try clear hb2); (try clear hk); (try clear hi)))
           go_ret
           exact ⟨E_, L_⟩
       · rw [if_neg c6] at H
         exact absurd H (by simp)
     · rw [if_neg c5] at H
       exact absurd H (by simp)
   · rw [if_neg c4] at H
     have c4b0 : decide (x14_1 < (l0_2.length : Int)) = false := decide_eq_false c4
     clear c4
     replace H := Option.bind_eq_some_iff.mp H
     obtain ⟨t215, A240, H⟩ := H
     replace H : (if t215 = 0 then (vtimer_Check.l1 k1 1 a0_0 l0_1 l0_2) else (some 280)) = some r := H
     have A24 := Aside0.mk A240
     clear A240
     by_cases c25 : t215 = 0
     · rw [if_pos c25] at H
       have c25b0 : (t215 == 0) = true := beq_iff_eq.mpr c25
       have c25b1 : (t215 != 0) = false := bne_eq_false_iff_eq.mpr c25
       clear c25
       have H' := Aside0.mk H
       clear H
       have hcz26_0 : wr.cell? ⟨gb211, 0, none⟩ = some (.int .i64 a0_0) := (blk_cell BK211.out 0).trans rfl
       have hcz26_1 : wr.cell? ⟨gb211, 1, none⟩ = some (.slice A0_1 l0_1.length c0_1) := (blk_cell BK211.out 1).trans rfl
       have hcz26_2 : wr.cell? ⟨gb211, 2, none⟩ = some (.slice A0_2 l0_2.length c0_2) := (blk_cell BK211.out 2).trans rfl
       have hfz26_0 := blk_frozen BK211.out 0
       have hfz26_1 := blk_frozen BK211.out 1
       have hfz26_2 := blk_frozen BK211.out 2
       go_wp2_with (first | ((with_reducible refine gate_callee (f := 28) rfl ?_); refine goesL_ (some 32) rfl rfl Try.func28 (by kernel_rfl) rfl #[.agg #[.int .i64 a0_0, .slice A0_1 l0_1.length c0_1]] rfl M_ ?_; (with_reducible refine (wheel_Check.calls k1 a0_0 _ _ l0_1 t215 _ ?side1 ?side2 A24.out).mono ?_); (case side1 => exact C_ HR0_1); (case side2 => exact HC0_1.out); rintro e w27 ⟨rfl, hb⟩; refine ⟨_, rfl, ?_⟩; replace BK211 := Bb_ BK211 hb; replace HB := Ls_ HB hb; (try clear hb); (try clear hb2); (try clear hk); (try clear hi)))
       go_loopg [6] k1 (fun kq v6 w' => ∃ (x6_2 : Int), v6 = .int .i64 x6_2 ∧ Aside0 (vtimer_Check.l1 kq x6_2 a0_0 l0_1 l0_2 = some r) ∧ Aside0 (kq ≤ k1) ∧ Aside0 (w'.heap[gb211]? = some (.cells #[.int .i64 a0_0, (.slice A0_1 l0_1.length c0_1), (.slice A0_2 l0_2.length c0_2)] 27 (0, 0))) ∧ Aside0 (Below w.heap.size w w'))
       case atStart => exact ⟨(1), S_, H', ⟨Nat.le_refl _⟩, ⟨B_ BK211⟩, ⟨L_⟩⟩
       case round =>
        clear H'
        try clear c1; try clear c2; try clear p2; try clear q2; try clear hx2; try clear c4; try clear c4b0; try clear c5; try clear c5b0; try clear c6; try clear c6b0; try clear p6; try clear c8; try clear c9; try clear c9b0; try clear c11; try clear c16; try clear c21; try clear p21; try clear q21; try clear hx21; try clear c25; try clear c25b0; try clear c25b1; try clear c27; try clear hcz12_0; try clear hcz12_1; try clear hcz12_2; try clear hcz14_0; try clear hcz14_1; try clear hcz14_2; try clear hcz17_0; try clear hcz17_1; try clear hcz17_2; try clear hcz19_0; try clear hcz19_1; try clear hcz19_2; try clear hcz22_0; try clear hcz22_1; try clear hcz22_2; try clear hcz26_0; try clear hcz26_1; try clear hcz26_2; try clear hcz3_0; try clear hcz3_1; try clear hcz3_2; try clear hfz12_0; try clear hfz12_1; try clear hfz12_2; try clear hfz14_0; try clear hfz14_1; try clear hfz14_2; try clear hfz17_0; try clear hfz17_1; try clear hfz17_2; try clear hfz19_0; try clear hfz19_1; try clear hfz19_2; try clear hfz22_0; try clear hfz22_1; try clear hfz22_2; try clear hfz26_0; try clear hfz26_1; try clear hfz26_2; try clear hfz3_0; try clear hfz3_1; try clear hfz3_2; try clear hx212_0; try clear hx212_1; try clear hx212_2; try clear p2; try clear p212; try clear q212
        obtain ⟨x6_2, rfl, HA, HK2, BK211, HB⟩ := hrel
        cases gk with
        | zero => exact absurd HA.out (by simp [vtimer_Check.l1])
        | succ k2 =>
         have H := HA.out
         clear HA
         simp only [vtimer_Check.l1] at H
         by_cases c28 : x6_2 ≤ 16
         · rw [if_pos c28] at H
           have c28b0 : decide (x6_2 ≤ 16) = true := decide_eq_true c28
           clear c28
           replace H := Option.bind_eq_some_iff.mp H
           obtain ⟨⟨t216, t217⟩, A290, H⟩ := H
           replace H : ((vtimer_alarmed.f x6_2).bind fun t218 => ((wheel_At.f a0_0 l0_1 t218).bind fun bt219 => (if (bt219.2 != t217) = true then (some 280) else (vtimer_Check.l1 k2 (wrap64 (x6_2 + 1)) a0_0 l0_1 l0_2)))) = some r := H
           have A29 := Aside0.mk A290
           clear A290
           replace H := Option.bind_eq_some_iff.mp H
           obtain ⟨t218, A300, H⟩ := H
           replace H : ((wheel_At.f a0_0 l0_1 t218).bind fun bt219 => (if (bt219.2 != t217) = true then (some 280) else (vtimer_Check.l1 k2 (wrap64 (x6_2 + 1)) a0_0 l0_1 l0_2))) = some r := H
           have A30 := Aside0.mk A300
           clear A300
           replace H := Option.bind_eq_some_iff.mp H
           obtain ⟨⟨t219, t220⟩, A310, H⟩ := H
           replace H : (if (t220 != t217) = true then (some 280) else (vtimer_Check.l1 k2 (wrap64 (x6_2 + 1)) a0_0 l0_1 l0_2)) = some r := H
           have A31 := Aside0.mk A310
           clear A310
           by_cases c32 : (t220 != t217) = true
           · rw [if_pos c32] at H
             have c32b0 : (t220 != t217) = true := c32
             (try (have c32b1 : decide (t220 = t217) = false := by simpa using c32))
             (try (have c32b2 : (t220 == t217) = false := by simpa using c32))
             (try (have c32b3 : ¬ (t220 = t217) := by simpa using c32))
             clear c32
             obtain rfl := Option.some.inj H
             have hcz33_0 : wr.cell? ⟨gb211, 0, none⟩ = some (.int .i64 a0_0) := (blk_cell BK211.out 0).trans rfl
             have hcz33_1 : wr.cell? ⟨gb211, 1, none⟩ = some (.slice A0_1 l0_1.length c0_1) := (blk_cell BK211.out 1).trans rfl
             have hcz33_2 : wr.cell? ⟨gb211, 2, none⟩ = some (.slice A0_2 l0_2.length c0_2) := (blk_cell BK211.out 2).trans rfl
             have hfz33_0 := blk_frozen BK211.out 0
             have hfz33_1 := blk_frozen BK211.out 1
             have hfz33_2 := blk_frozen BK211.out 2
             try go_wp2_with (first | ((with_reducible refine gate_callee (f := 29) rfl ?_); refine goesL_ (some 42) rfl rfl Try.func29 (by kernel_rfl) rfl #[.slice A0_2 l0_2.length c0_2, .int .i64 x6_2] rfl M_ ?_; (with_reducible refine (vtimer_at.calls _ _ l0_2 x6_2 t216 t217 _ ?side1 ?side2 A29.out).mono ?_); (case side1 => exact C_ HR0_2); (case side2 => exact HC0_2.out); rintro e w34 ⟨rfl, hb⟩; refine ⟨_, rfl, ?_⟩; replace BK211 := Bb_ BK211 hb; replace HB := Ls_ HB hb; (try clear hb); (try clear hb2); (try clear hk); (try clear hi)))
             have n0_ := Aside0.mk (blk_drew BK211.out)
             have n1_ := Aside0.mk (below_drew1 HB.out)
             clear BK211
             clear HB
             have BK211 := n0_
             have HB := n1_
             clear n0_ n1_
             refine st_ 10 (fun w' => w'.cell? ⟨gb211, 0, none⟩ = some (.int .i64 a0_0) ∧ w'.cell? ⟨gb211, 1, none⟩ = some (.slice A0_1 l0_1.length c0_1) ∧ w'.cell? ⟨gb211, 2, none⟩ = some (.slice A0_2 l0_2.length c0_2)) [] ⟨(blk_cell BK211.out 0).trans rfl, (blk_cell BK211.out 1).trans rfl, (blk_cell BK211.out 2).trans rfl⟩ (fun hHeld => ?_); refine with_tabW vtimer_Check.tab15 vtimer_Check.bits15 (fun HT_ HW_ => ?_)
             generalize w34.drew = w35 at BK211 HB hHeld ⊢
             refine pu_ 0 46 HT_ ?_
             refine pu_ 2 48 HT_ ?_
             refine ta_ 1 47 HT_ HW_ rfl rfl hHeld (by rintro w' ⟨s0, s1, s2⟩; go_simp; with_reducible rfl) ?_
             refine on_ 3 49 HT_ rfl rfl (fun K hK => ?_)
             refine goes_ Try.func31 (by kernel_rfl) rfl #[.int .i64 x6_2] (by rfl) rfl rfl M_ ?_
             with_reducible refine (vtimer_alarmed.calls x6_2 t218 _ A30.out).mono ?_
             rintro e w' ⟨rfl, ⟨nd, rfl⟩⟩
             refine ⟨_, rfl, ?_⟩
             refine hK.out _ _ ⟨(blk_cell BK211.out 0).trans rfl, (blk_cell BK211.out 1).trans rfl, (blk_cell BK211.out 2).trans rfl⟩ (fun hHeld => ?_)
             clear hK K
             refine nm_ 49 ?_
             refine on_ 4 50 HT_ rfl rfl (fun K hK => ?_)
             refine goes_ Try.func30 (by kernel_rfl) rfl #[.agg #[.int .i64 a0_0, .slice A0_1 l0_1.length c0_1], .int .i64 t218] (by rfl) rfl rfl M_ ?_
             with_reducible refine (wheel_At.calls a0_0 _ _ l0_1 t218 t219 t220 _ ?side1 ?side2 A31.out).mono ?_
             (case side1 => repeat (first | exact (Kd.C_below HR0_1.out L_) | (with_reducible refine Kd.C_alloc ?_ _) | (with_reducible refine Kd.C_drewN ?_ _) | (with_reducible refine Kd.C_drew ?_)))
             (case side2 => exact HC0_1.out)
             rintro e w36 ⟨rfl, hb⟩
             refine ⟨_, rfl, ?_⟩
             have n0_ := Bb_ BK211 hb
             have n1_ := Ls_ HB hb
             clear BK211
             clear HB
             have BK211 := n0_
             have HB := n1_
             clear n0_ n1_
             (try clear hb)
             (try clear hb2)
             (try clear hk)
             (try clear hi)
             refine hK.out _ _ ⟨(blk_cell BK211.out 0).trans rfl, (blk_cell BK211.out 1).trans rfl, (blk_cell BK211.out 2).trans rfl⟩ (fun hHeld => ?_)
             clear hK K
             refine nm_ 50 ?_
             refine pu_ 5 45 HT_ ?_
             refine pu_ 6 51 HT_ ?_
             refine pu_ 7 52 HT_ ?_
             refine pu_ 8 9 HT_ ?_
             refine pu_ 9 10 HT_ ?_
             refine done_ (done_of HT_.out (by kernel_rfl)) ?_
             try go_wp2
             go_ret
             exact ⟨E_, L_⟩
           · rw [if_neg c32] at H
             have c32b0 : (t220 != t217) = false := by simpa using c32
             (try (have c32b1 : decide (t220 = t217) = true := by simpa using c32))
             (try (have c32b2 : (t220 == t217) = true := by simpa using c32))
             clear c32
             have H' := Aside0.mk H
             clear H
             have hcz37_0 : wr.cell? ⟨gb211, 0, none⟩ = some (.int .i64 a0_0) := (blk_cell BK211.out 0).trans rfl
             have hcz37_1 : wr.cell? ⟨gb211, 1, none⟩ = some (.slice A0_1 l0_1.length c0_1) := (blk_cell BK211.out 1).trans rfl
             have hcz37_2 : wr.cell? ⟨gb211, 2, none⟩ = some (.slice A0_2 l0_2.length c0_2) := (blk_cell BK211.out 2).trans rfl
             have hfz37_0 := blk_frozen BK211.out 0
             have hfz37_1 := blk_frozen BK211.out 1
             have hfz37_2 := blk_frozen BK211.out 2
             try go_wp2_with (first | ((with_reducible refine gate_callee (f := 29) rfl ?_); refine goesL_ (some 42) rfl rfl Try.func29 (by kernel_rfl) rfl #[.slice A0_2 l0_2.length c0_2, .int .i64 x6_2] rfl M_ ?_; (with_reducible refine (vtimer_at.calls _ _ l0_2 x6_2 t216 t217 _ ?side1 ?side2 A29.out).mono ?_); (case side1 => exact C_ HR0_2); (case side2 => exact HC0_2.out); rintro e w38 ⟨rfl, hb⟩; refine ⟨_, rfl, ?_⟩; replace BK211 := Bb_ BK211 hb; replace HB := Ls_ HB hb; (try clear hb); (try clear hb2); (try clear hk); (try clear hi)))
             have n0_ := Aside0.mk (blk_drew BK211.out)
             have n1_ := Aside0.mk (below_drew1 HB.out)
             clear BK211
             clear HB
             have BK211 := n0_
             have HB := n1_
             clear n0_ n1_
             refine st_ 10 (fun w' => w'.cell? ⟨gb211, 0, none⟩ = some (.int .i64 a0_0) ∧ w'.cell? ⟨gb211, 1, none⟩ = some (.slice A0_1 l0_1.length c0_1) ∧ w'.cell? ⟨gb211, 2, none⟩ = some (.slice A0_2 l0_2.length c0_2)) [] ⟨(blk_cell BK211.out 0).trans rfl, (blk_cell BK211.out 1).trans rfl, (blk_cell BK211.out 2).trans rfl⟩ (fun hHeld => ?_); refine with_tabW vtimer_Check.tab15 vtimer_Check.bits15 (fun HT_ HW_ => ?_)
             generalize w38.drew = w39 at BK211 HB hHeld ⊢
             refine pu_ 0 46 HT_ ?_
             refine pu_ 2 48 HT_ ?_
             refine ta_ 1 47 HT_ HW_ rfl rfl hHeld (by rintro w' ⟨s0, s1, s2⟩; go_simp; with_reducible rfl) ?_
             refine on_ 3 49 HT_ rfl rfl (fun K hK => ?_)
             refine goes_ Try.func31 (by kernel_rfl) rfl #[.int .i64 x6_2] (by rfl) rfl rfl M_ ?_
             with_reducible refine (vtimer_alarmed.calls x6_2 t218 _ A30.out).mono ?_
             rintro e w' ⟨rfl, ⟨nd, rfl⟩⟩
             refine ⟨_, rfl, ?_⟩
             refine hK.out _ _ ⟨(blk_cell BK211.out 0).trans rfl, (blk_cell BK211.out 1).trans rfl, (blk_cell BK211.out 2).trans rfl⟩ (fun hHeld => ?_)
             clear hK K
             refine nm_ 49 ?_
             refine on_ 4 50 HT_ rfl rfl (fun K hK => ?_)
             refine goes_ Try.func30 (by kernel_rfl) rfl #[.agg #[.int .i64 a0_0, .slice A0_1 l0_1.length c0_1], .int .i64 t218] (by rfl) rfl rfl M_ ?_
             with_reducible refine (wheel_At.calls a0_0 _ _ l0_1 t218 t219 t220 _ ?side1 ?side2 A31.out).mono ?_
             (case side1 => repeat (first | exact (Kd.C_below HR0_1.out L_) | (with_reducible refine Kd.C_alloc ?_ _) | (with_reducible refine Kd.C_drewN ?_ _) | (with_reducible refine Kd.C_drew ?_)))
             (case side2 => exact HC0_1.out)
             rintro e w40 ⟨rfl, hb⟩
             refine ⟨_, rfl, ?_⟩
             have n0_ := Bb_ BK211 hb
             have n1_ := Ls_ HB hb
             clear BK211
             clear HB
             have BK211 := n0_
             have HB := n1_
             clear n0_ n1_
             (try clear hb)
             (try clear hb2)
             (try clear hk)
             (try clear hi)
             refine hK.out _ _ ⟨(blk_cell BK211.out 0).trans rfl, (blk_cell BK211.out 1).trans rfl, (blk_cell BK211.out 2).trans rfl⟩ (fun hHeld => ?_)
             clear hK K
             refine nm_ 50 ?_
             refine pu_ 5 45 HT_ ?_
             refine pu_ 6 51 HT_ ?_
             refine pu_ 7 52 HT_ ?_
             refine pu_ 8 9 HT_ ?_
             refine pu_ 9 10 HT_ ?_
             refine done_ (done_of HT_.out (by kernel_rfl)) ?_
             try go_wp2
             go_roundg k2
             case measure => have := HK1.out; have := HK2.out; omega
             case rel => exact ⟨(wrap64 (x6_2 + 1)), S_, H', ⟨by have := HK1.out; have := HK2.out; omega⟩, ⟨B_ BK211⟩, ⟨L_⟩⟩
         · rw [if_neg c28] at H
           have c28b0 : decide (x6_2 ≤ 16) = false := decide_eq_false c28
           clear c28
           obtain rfl := Option.some.inj H
           go_wp2
           go_ret
           exact ⟨E_, L_⟩
     · rw [if_neg c25] at H
       have c25b0 : (t215 == 0) = false := beq_eq_false_iff_ne.mpr c25
       have c25b1 : (t215 != 0) = true := bne_iff_ne.mpr c25
       obtain rfl := Option.some.inj H
       have hcz41_0 : wr.cell? ⟨gb211, 0, none⟩ = some (.int .i64 a0_0) := (blk_cell BK211.out 0).trans rfl
       have hcz41_1 : wr.cell? ⟨gb211, 1, none⟩ = some (.slice A0_1 l0_1.length c0_1) := (blk_cell BK211.out 1).trans rfl
       have hcz41_2 : wr.cell? ⟨gb211, 2, none⟩ = some (.slice A0_2 l0_2.length c0_2) := (blk_cell BK211.out 2).trans rfl
       have hfz41_0 := blk_frozen BK211.out 0
       have hfz41_1 := blk_frozen BK211.out 1
       have hfz41_2 := blk_frozen BK211.out 2
       go_wp2_with (first | ((with_reducible refine gate_callee (f := 28) rfl ?_); refine goesL_ (some 32) rfl rfl Try.func28 (by kernel_rfl) rfl #[.agg #[.int .i64 a0_0, .slice A0_1 l0_1.length c0_1]] rfl M_ ?_; (with_reducible refine (wheel_Check.calls k1 a0_0 _ _ l0_1 t215 _ ?side1 ?side2 A24.out).mono ?_); (case side1 => exact C_ HR0_1); (case side2 => exact HC0_1.out); rintro e w42 ⟨rfl, hb⟩; refine ⟨_, rfl, ?_⟩; replace BK211 := Bb_ BK211 hb; replace HB := Ls_ HB hb; (try clear hb); (try clear hb2); (try clear hk); (try clear hi)))
       go_ret
       exact ⟨E_, L_⟩

end Go.Proofs.Ytlddekjlmkimnaa.C
