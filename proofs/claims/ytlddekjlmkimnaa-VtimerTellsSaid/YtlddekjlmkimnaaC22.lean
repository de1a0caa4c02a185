import Derived.Test.YtlddekjlmkimnaaJ5
import Derived.Test.YtlddekjlmkimnaaJ6
import Derived.Test.YtlddekjlmkimnaaC15
import Derived.Test.YtlddekjlmkimnaaC17
import Derived.Test.YtlddekjlmkimnaaHnext
-- Written by a program of this session (wip/tools/stub.py, over the kit's print) and by hand; not the kit's print.
namespace Go.Proofs.Ytlddekjlmkimnaa.C
open Go.RowKit Go.Proofs.YtlddekjlmkimnaaW.PrintWords Go.Proofs.YtlddekjlmkimnaaW.PrintLast Go.Proofs.YtlddekjlmkimnaaW.PrintMore
attribute [local go_sem] max2_int min2_int max_two min_two max_three min_three max_four min_four   -- for this text's walks alone
set_option linter.unusedVariables false
set_option linter.unusedSimpArgs false

/-! ### vtimer_Next: function 13 -/
def vtimer_Next.f (k : Nat) (a0_0 : Int) (l0_1 : List (S88)) (l0_2 : List (S47)) : Option (Int × Bool) := (vtimer_Check.f k a0_0 l0_1 l0_2).bind fun t297 => (if t297 = 0 then ((wheel_Next.f a0_0 l0_1).bind fun bt298 => (some (bt298.1, bt298.2))) else (some (0, false)))
theorem vtimer_Next.mono : ∀ a0 a1 a2 k, LeO (vtimer_Next.f k a0 a1 a2) (vtimer_Next.f (k + 1) a0 a1 a2) := by
 intro a0 a1 a2 k
 unfold vtimer_Next.f
 repeat' first
  | (with_reducible exact vtimer_Check.mono _ _ _ _)
  | (with_reducible exact LeO.refl _)
  | (with_reducible exact LeO.none _)
  | (with_reducible refine LeO.ite ?_ ?_)
  | (with_reducible refine LeO.bind ?_ (fun _ => ?_))
  | exact vtimer_Check.mono _ _ _ _
  | exact LeO.none _
  | refine LeO.ite ?_ ?_
  | refine LeO.bind ?_ (fun _ => ?_)
set_option maxHeartbeats 8000000 in
set_option maxRecDepth 100000 in
theorem vtimer_Next.calls (k : Nat) (a0_0 : Int) (A0_1 : Option Addr) (c0_1 : Nat) (l0_1 : List (S88)) (A0_2 : Option Addr) (c0_2 : Nat) (l0_2 : List (S47)) (r1 : Int) (r2 : Bool) (w : World) (hr0_1 : Kd.C k88 w A0_1 l0_1.length l0_1) (hc0_1 : l0_1.length ≤ c0_1) (hr0_2 : Kd.C k47 w A0_2 l0_2.length l0_2) (hc0_2 : l0_2.length ≤ c0_2) (h : vtimer_Next.f k a0_0 l0_1 l0_2 = some (r1, r2)) :
 Calls Try.prog 13 #[.agg #[.int .i64 a0_0, .slice A0_1 l0_1.length c0_1, .slice A0_2 l0_2.length c0_2]] w fun e w' => e = .returned (.tuple #[.int .i64 r1, .bool r2]) ∧ Below w.heap.size w w' := by
 have hu27 := Try.underlying27
 have hu24 := Try.underlying24
 have HR0_1 := Aside0.mk hr0_1
 have HC0_1 := Aside0.mk hc0_1
 clear hr0_1 hc0_1
 have HR0_2 := Aside0.mk hr0_2
 have HC0_2 := Aside0.mk hc0_2
 clear hr0_2 hc0_2
 have HB := Aside0.mk (Below.refl w.heap.size w)
 have H : ((vtimer_Check.f k a0_0 l0_1 l0_2).bind fun t297 => (if t297 = 0 then ((wheel_Next.f a0_0 l0_1).bind fun bt298 => (some (bt298.1, bt298.2))) else (some (0, false)))) = some (r1, r2) := h
 clear h
 replace H := Option.bind_eq_some_iff.mp H
 obtain ⟨t297, A20, H⟩ := H
 replace H : (if t297 = 0 then ((wheel_Next.f a0_0 l0_1).bind fun bt298 => (some (bt298.1, bt298.2))) else (some (0, false))) = some (r1, r2) := H
 have A2 := Aside0.mk A20
 clear A20
 by_cases c3 : t297 = 0
 · rw [if_pos c3] at H
   have c3b0 : (t297 == 0) = true := beq_iff_eq.mpr c3
   have c3b1 : (t297 != 0) = false := bne_eq_false_iff_eq.mpr c3
   clear c3
   replace H := Option.bind_eq_some_iff.mp H
   obtain ⟨⟨t298, t299⟩, A40, H⟩ := H
   replace H : (some (t298, t299)) = some (r1, r2) := H
   have A4 := Aside0.mk A40
   clear A40
   simp only [Option.some.injEq, Prod.mk.injEq] at H
   obtain ⟨rfl, rfl⟩ := H
   go_enter Try.func13, Try.ntmps13
   go_wp2_with (first | ((with_reducible refine gate_dst (N := 1) rfl ?_); refine box_ 1 27 #[.int .i64 a0_0, .slice A0_1 l0_1.length c0_1, .slice A0_2 l0_2.length c0_2] ?_; intro gb296 hg w5 hbox hb; have BK296 := Aside0.mk (hbox); have GW296 := G_ hg HB; have GE296 := G_ hg HB; replace HB := Ls_ HB hb; clear hb hbox hg; have hcz6_0 : w5.cell? ⟨gb296, 0, none⟩ = some (.int .i64 a0_0) := (blk_cell BK296.out 0).trans rfl; have hcz6_1 : w5.cell? ⟨gb296, 1, none⟩ = some (.slice A0_1 l0_1.length c0_1) := (blk_cell BK296.out 1).trans rfl; have hcz6_2 : w5.cell? ⟨gb296, 2, none⟩ = some (.slice A0_2 l0_2.length c0_2) := (blk_cell BK296.out 2).trans rfl; have hfz6_0 := blk_frozen BK296.out 0; have hfz6_1 := blk_frozen BK296.out 1; have hfz6_2 := blk_frozen BK296.out 2) | ((with_reducible refine gate_callee (f := 9) rfl ?_); refine goesL_ (some 5) rfl rfl Try.func9 (by kernel_rfl) rfl #[.agg #[.int .i64 a0_0, .slice A0_1 l0_1.length c0_1, .slice A0_2 l0_2.length c0_2]] rfl M_ ?_; (with_reducible refine (vtimer_Check.calls k a0_0 _ _ l0_1 _ _ l0_2 t297 _ ?side1 ?side2 ?side3 ?side4 A2.out).mono ?_); (case side1 => exact C_ HR0_1); (case side2 => exact HC0_1.out); (case side3 => exact C_ HR0_2); (case side4 => exact HC0_2.out); rintro e w7 ⟨rfl, hb⟩; refine ⟨_, rfl, ?_⟩; replace BK296 := Bb_ BK296 hb; replace HB := Ls_ HB hb; (try clear hb); (try clear hb2); (try clear hk); (try clear hi); have hcz8_0 : w7.cell? ⟨gb296, 0, none⟩ = some (.int .i64 a0_0) := (blk_cell BK296.out 0).trans rfl; have hcz8_1 : w7.cell? ⟨gb296, 1, none⟩ = some (.slice A0_1 l0_1.length c0_1) := (blk_cell BK296.out 1).trans rfl; have hcz8_2 : w7.cell? ⟨gb296, 2, none⟩ = some (.slice A0_2 l0_2.length c0_2) := (blk_cell BK296.out 2).trans rfl; have hfz8_0 := blk_frozen BK296.out 0; have hfz8_1 := blk_frozen BK296.out 1; have hfz8_2 := blk_frozen BK296.out 2) | ((with_reducible refine gate_callee (f := 39) rfl ?_); refine goesL_ (some 9) rfl rfl Try.func39 (by kernel_rfl) rfl #[.agg #[.int .i64 a0_0, .slice A0_1 l0_1.length c0_1]] rfl M_ ?_; (with_reducible refine (wheel_Next.calls a0_0 _ _ l0_1 t298 t299 _ ?side1 ?side2 A4.out).mono ?_); (case side1 => exact C_ HR0_1); (case side2 => exact HC0_1.out); rintro e w9 ⟨rfl, hb⟩; refine ⟨_, rfl, ?_⟩; replace BK296 := Bb_ BK296 hb; replace HB := Ls_ HB hb; (try clear hb); (try clear hb2); (try clear hk); (try clear hi)))
   go_ret2
   exact ⟨E_, L_⟩
 · rw [if_neg c3] at H
   have c3b0 : (t297 == 0) = false := beq_eq_false_iff_ne.mpr c3
   have c3b1 : (t297 != 0) = true := bne_iff_ne.mpr c3
   simp only [Option.some.injEq, Prod.mk.injEq] at H
   obtain ⟨rfl, rfl⟩ := H
   go_enter Try.func13, Try.ntmps13
   go_wp2_with (first | ((with_reducible refine gate_dst (N := 1) rfl ?_); refine box_ 1 27 #[.int .i64 a0_0, .slice A0_1 l0_1.length c0_1, .slice A0_2 l0_2.length c0_2] ?_; intro gb296 hg w10 hbox hb; have BK296 := Aside0.mk (hbox); have GW296 := G_ hg HB; have GE296 := G_ hg HB; replace HB := Ls_ HB hb; clear hb hbox hg; have hcz11_0 : w10.cell? ⟨gb296, 0, none⟩ = some (.int .i64 a0_0) := (blk_cell BK296.out 0).trans rfl; have hcz11_1 : w10.cell? ⟨gb296, 1, none⟩ = some (.slice A0_1 l0_1.length c0_1) := (blk_cell BK296.out 1).trans rfl; have hcz11_2 : w10.cell? ⟨gb296, 2, none⟩ = some (.slice A0_2 l0_2.length c0_2) := (blk_cell BK296.out 2).trans rfl; have hfz11_0 := blk_frozen BK296.out 0; have hfz11_1 := blk_frozen BK296.out 1; have hfz11_2 := blk_frozen BK296.out 2) | ((with_reducible refine gate_callee (f := 9) rfl ?_); refine goesL_ (some 5) rfl rfl Try.func9 (by kernel_rfl) rfl #[.agg #[.int .i64 a0_0, .slice A0_1 l0_1.length c0_1, .slice A0_2 l0_2.length c0_2]] rfl M_ ?_; (with_reducible refine (vtimer_Check.calls k a0_0 _ _ l0_1 _ _ l0_2 t297 _ ?side1 ?side2 ?side3 ?side4 A2.out).mono ?_); (case side1 => exact C_ HR0_1); (case side2 => exact HC0_1.out); (case side3 => exact C_ HR0_2); (case side4 => exact HC0_2.out); rintro e w12 ⟨rfl, hb⟩; refine ⟨_, rfl, ?_⟩; replace BK296 := Bb_ BK296 hb; replace HB := Ls_ HB hb; (try clear hb); (try clear hb2); (try clear hk); (try clear hi)))
   go_ret2
   exact ⟨E_, L_⟩

/-! ### vtimer_asleep: function 41 -/
def vtimer_asleep.f (a0 : Int) : Option (Int) := some (wrap64 ((wrap64 (16 + a0)) - 1))
set_option maxHeartbeats 8000000 in
set_option maxRecDepth 100000 in
theorem vtimer_asleep.calls (a0 : Int) (r : Int) (w : World) (h : vtimer_asleep.f a0 = some r) :
 Calls Try.prog 41 #[.int .i64 a0] w fun e w' => e = .returned (.int .i64 r) ∧ Drawn0 w w' := by
 have H : (some (wrap64 ((wrap64 (16 + a0)) - 1))) = some r := h
 clear h
 obtain rfl := Option.some.inj H
 go_enter Try.func41, Try.ntmps41
 go_wp2
 go_ret
 exact ⟨by first | rfl | (simp; done) | (simp [*]; done), by repeat (first | exact Drawn0.refl _ | apply Drawn0.step)⟩

/-! ### vtimer_Sleeps: function 15 -/
def vtimer_Sleeps.j0 : Nat → Int → Bool → Int → List (S88) → List (S47) → Option (Int × Bool)
 | 0, _, _, _, _, _ => none
 | k + 1, x1, x13, x301000, x301001, x301002 => if x13 = true then (some (0, false)) else ((vtimer_asleep.f x1).bind fun t303 => ((wheel_At.f x301000 x301001 t303).bind fun bt304 => (some (bt304.1, bt304.2))))
def vtimer_Sleeps.f (k : Nat) (a0_0 : Int) (l0_1 : List (S88)) (l0_2 : List (S47)) (a1 : Int) : Option (Int × Bool) := (vtimer_Check.f k a0_0 l0_1 l0_2).bind fun t301 => (if t301 = 0 then ((vtimer_vcpu.f a1).bind fun t302 => (vtimer_Sleeps.j0 k a1 (!t302) a0_0 l0_1 l0_2)) else (vtimer_Sleeps.j0 k a1 true a0_0 l0_1 l0_2))
theorem vtimer_Sleeps.mono_l : ∀ k, (∀ y0 y1 y2 y3 y4, LeO (vtimer_Sleeps.j0 k y0 y1 y2 y3 y4) (vtimer_Sleeps.j0 (k + 1) y0 y1 y2 y3 y4))
 | 0 => fun _ _ _ _ _ r h => by simp [vtimer_Sleeps.j0] at h
 | k + 1 => by
  have ih0 := vtimer_Sleeps.mono_l k
  · intro y0 y1 y2 y3 y4
    unfold vtimer_Sleeps.j0
    repeat' first
    | (with_reducible exact ih0 _ _ _ _ _)
    | (with_reducible exact vtimer_Check.mono _ _ _ _)
    | (with_reducible exact LeO.refl _)
    | (with_reducible exact LeO.none _)
    | (with_reducible refine LeO.ite ?_ ?_)
    | (with_reducible refine LeO.bind ?_ (fun _ => ?_))
    | exact ih0 _ _ _ _ _
    | exact vtimer_Check.mono _ _ _ _
    | exact LeO.none _
    | refine LeO.ite ?_ ?_
    | refine LeO.bind ?_ (fun _ => ?_)
theorem vtimer_Sleeps.mono : ∀ a0 a1 a2 a3 k, LeO (vtimer_Sleeps.f k a0 a1 a2 a3) (vtimer_Sleeps.f (k + 1) a0 a1 a2 a3) := by
 intro a0 a1 a2 a3 k
 have ih0 := vtimer_Sleeps.mono_l k
 unfold vtimer_Sleeps.f
 repeat' first
  | (with_reducible exact ih0 _ _ _ _ _)
  | (with_reducible exact vtimer_Check.mono _ _ _ _)
  | (with_reducible exact LeO.refl _)
  | (with_reducible exact LeO.none _)
  | (with_reducible refine LeO.ite ?_ ?_)
  | (with_reducible refine LeO.bind ?_ (fun _ => ?_))
  | exact ih0 _ _ _ _ _
  | exact vtimer_Check.mono _ _ _ _
  | exact LeO.none _
  | refine LeO.ite ?_ ?_
  | refine LeO.bind ?_ (fun _ => ?_)
def vtimer_Sleeps.T3 : Bool × List (List Nat × List Nat) := (true, [([], []), ([0], [0]), ([], []), ([2], [2]), ([1, 3, 3], [1, 3]), ([4], [4]), ([4], [4]), ([5, 4, 0, 1, 2, 3, 4, 5, 6], [5]), ([6, 7, 0, 1, 2, 3, 4, 5, 6, 7], [6])])
def vtimer_Sleeps.B3 : List Nat := [0, 1, 0, 4, 15, 31, 31, 127, 255]
theorem vtimer_Sleeps.tab3 : rtab .any (opsOf Try.f15 3) = vtimer_Sleeps.T3 := by kernel_rfl
theorem vtimer_Sleeps.bits3 : waitsOk vtimer_Sleeps.T3.2 vtimer_Sleeps.B3 = true := by kernel_rfl
set_option maxHeartbeats 8000000 in
set_option maxRecDepth 100000 in
theorem vtimer_Sleeps.calls (k : Nat) (a0_0 : Int) (A0_1 : Option Addr) (c0_1 : Nat) (l0_1 : List (S88)) (A0_2 : Option Addr) (c0_2 : Nat) (l0_2 : List (S47)) (a1 : Int) (r1 : Int) (r2 : Bool) (w : World) (hr0_1 : Kd.C k88 w A0_1 l0_1.length l0_1) (hc0_1 : l0_1.length ≤ c0_1) (hr0_2 : Kd.C k47 w A0_2 l0_2.length l0_2) (hc0_2 : l0_2.length ≤ c0_2) (h : vtimer_Sleeps.f k a0_0 l0_1 l0_2 a1 = some (r1, r2)) :
 Calls Try.prog 15 #[.agg #[.int .i64 a0_0, .slice A0_1 l0_1.length c0_1, .slice A0_2 l0_2.length c0_2], .int .i64 a1] w fun e w' => e = .returned (.tuple #[.int .i64 r1, .bool r2]) ∧ Below w.heap.size w w' := by
 have hu27 := Try.underlying27
 have hu24 := Try.underlying24
 have HR0_1 := Aside0.mk hr0_1
 have HC0_1 := Aside0.mk hc0_1
 clear hr0_1 hc0_1
 have HR0_2 := Aside0.mk hr0_2
 have HC0_2 := Aside0.mk hc0_2
 clear hr0_2 hc0_2
 have HB := Aside0.mk (Below.refl w.heap.size w)
 have H : ((vtimer_Check.f k a0_0 l0_1 l0_2).bind fun t301 => (if t301 = 0 then ((vtimer_vcpu.f a1).bind fun t302 => (vtimer_Sleeps.j0 k a1 (!t302) a0_0 l0_1 l0_2)) else (vtimer_Sleeps.j0 k a1 true a0_0 l0_1 l0_2))) = some (r1, r2) := h
 clear h
 have HC3 := Aside0.mk H
 clear H
 go_enter Try.func15, Try.ntmps15
 go_upto_region 1 with (first | ((with_reducible refine gate_dst (N := 2) rfl ?_); refine box_ 2 27 #[.int .i64 a0_0, .slice A0_1 l0_1.length c0_1, .slice A0_2 l0_2.length c0_2] ?_; intro gb300 hg w4 hbox hb; have BK300 := Aside0.mk (hbox); have GW300 := G_ hg HB; have GE300 := G_ hg HB; replace HB := Ls_ HB hb; clear hb hbox hg))
 (try simp only [Act.put, List.setIfInBounds_toArray, List.set_cons_zero, List.set_cons_succ])
 go_cut [13] (fun v13 wc => ∃ (kq : Nat) (x13_2 : Bool), v13 = .bool x13_2 ∧ Aside0 (vtimer_Sleeps.j0 kq a1 x13_2 a0_0 l0_1 l0_2 = some (r1, r2)) ∧ Aside0 (kq ≤ k) ∧ Aside0 (wc.heap[gb300]? = some (.cells #[.int .i64 a0_0, (.slice A0_1 l0_1.length c0_1), (.slice A0_2 l0_2.length c0_2)] 27 (0, 0))) ∧ Aside0 (Below w.heap.size w wc))
 case first =>
  have H := HC3.out
  clear HC3
  replace H := Option.bind_eq_some_iff.mp H
  obtain ⟨t301, A50, H⟩ := H
  replace H : (if t301 = 0 then ((vtimer_vcpu.f a1).bind fun t302 => (vtimer_Sleeps.j0 k a1 (!t302) a0_0 l0_1 l0_2)) else (vtimer_Sleeps.j0 k a1 true a0_0 l0_1 l0_2)) = some (r1, r2) := H
  have A5 := Aside0.mk A50
  clear A50
  by_cases c6 : t301 = 0
  · rw [if_pos c6] at H
    have c6b0 : (t301 == 0) = true := beq_iff_eq.mpr c6
    have c6b1 : (t301 != 0) = false := bne_eq_false_iff_eq.mpr c6
    clear c6
    (first | rw [c6b0] | (simp only [i64_w, i32_w]; rw [c6b0]) | skip)
    replace H := Option.bind_eq_some_iff.mp H
    obtain ⟨t302, A70, H⟩ := H
    replace H : (vtimer_Sleeps.j0 k a1 (!t302) a0_0 l0_1 l0_2) = some (r1, r2) := H
    have A7 := Aside0.mk A70
    clear A70
    have H' := Aside0.mk H
    clear H
    have hcz8_0 : w4.cell? ⟨gb300, 0, none⟩ = some (.int .i64 a0_0) := (blk_cell BK300.out 0).trans rfl
    have hcz8_1 : w4.cell? ⟨gb300, 1, none⟩ = some (.slice A0_1 l0_1.length c0_1) := (blk_cell BK300.out 1).trans rfl
    have hcz8_2 : w4.cell? ⟨gb300, 2, none⟩ = some (.slice A0_2 l0_2.length c0_2) := (blk_cell BK300.out 2).trans rfl
    have hfz8_0 := blk_frozen BK300.out 0
    have hfz8_1 := blk_frozen BK300.out 1
    have hfz8_2 := blk_frozen BK300.out 2
    go_wp2_with (first | ((with_reducible refine gate_callee (f := 9) rfl ?_); refine goesL_ (some 7) rfl rfl Try.func9 (by kernel_rfl) rfl #[.agg #[.int .i64 a0_0, .slice A0_1 l0_1.length c0_1, .slice A0_2 l0_2.length c0_2]] rfl M_ ?_; (with_reducible refine (vtimer_Check.calls k a0_0 _ _ l0_1 _ _ l0_2 t301 _ ?side1 ?side2 ?side3 ?side4 A5.out).mono ?_); (case side1 => exact C_ HR0_1); (case side2 => exact HC0_1.out); (case side3 => exact C_ HR0_2); (case side4 => exact HC0_2.out); rintro e w9 ⟨rfl, hb⟩; refine ⟨_, rfl, ?_⟩; replace BK300 := Bb_ BK300 hb; replace HB := Ls_ HB hb; (try clear hb); (try clear hb2); (try clear hk); (try clear hi)) | (go_at_call 40; (with_reducible refine (vtimer_vcpu.calls a1 t302 _ A7.out).mono ?_); rintro e w' ⟨rfl, ⟨nd, rfl⟩⟩))
    go_meet
    case rel => exact ⟨_, (!t302), S_, H', ⟨by first | omega | exact Nat.le_refl _⟩, ⟨B_ BK300⟩, ⟨L_⟩⟩
  · rw [if_neg c6] at H
    have c6b0 : (t301 == 0) = false := beq_eq_false_iff_ne.mpr c6
    have c6b1 : (t301 != 0) = true := bne_iff_ne.mpr c6
    (first | rw [c6b0] | (simp only [i64_w, i32_w]; rw [c6b0]) | skip)
    have H' := Aside0.mk H
    clear H
    have hcz10_0 : w4.cell? ⟨gb300, 0, none⟩ = some (.int .i64 a0_0) := (blk_cell BK300.out 0).trans rfl
    have hcz10_1 : w4.cell? ⟨gb300, 1, none⟩ = some (.slice A0_1 l0_1.length c0_1) := (blk_cell BK300.out 1).trans rfl
    have hcz10_2 : w4.cell? ⟨gb300, 2, none⟩ = some (.slice A0_2 l0_2.length c0_2) := (blk_cell BK300.out 2).trans rfl
    have hfz10_0 := blk_frozen BK300.out 0
    have hfz10_1 := blk_frozen BK300.out 1
    have hfz10_2 := blk_frozen BK300.out 2
    go_wp2_with (first | ((with_reducible refine gate_callee (f := 9) rfl ?_); refine goesL_ (some 7) rfl rfl Try.func9 (by kernel_rfl) rfl #[.agg #[.int .i64 a0_0, .slice A0_1 l0_1.length c0_1, .slice A0_2 l0_2.length c0_2]] rfl M_ ?_; (with_reducible refine (vtimer_Check.calls k a0_0 _ _ l0_1 _ _ l0_2 t301 _ ?side1 ?side2 ?side3 ?side4 A5.out).mono ?_); (case side1 => exact C_ HR0_1); (case side2 => exact HC0_1.out); (case side3 => exact C_ HR0_2); (case side4 => exact HC0_2.out); rintro e w11 ⟨rfl, hb⟩; refine ⟨_, rfl, ?_⟩; replace BK300 := Bb_ BK300 hb; replace HB := Ls_ HB hb; (try clear hb); (try clear hb2); (try clear hk); (try clear hi)))
    go_meet
    case rel => exact ⟨_, (true), S_, H', ⟨by first | omega | exact Nat.le_refl _⟩, ⟨B_ BK300⟩, ⟨L_⟩⟩
 case rest =>
  clear HC3
  try clear c1; try clear p2; try clear c6; try clear c6b0; try clear c6b1; try clear c9; try clear hcz10_0; try clear hcz10_1; try clear hcz10_2; try clear hcz8_0; try clear hcz8_1; try clear hcz8_2; try clear hfz10_0; try clear hfz10_1; try clear hfz10_2; try clear hfz8_0; try clear hfz8_1; try clear hfz8_2
  obtain ⟨kq, x13_2, rfl, HA, HJ2, BK300, HB⟩ := hcut
  cases kq with
  | zero => exact absurd HA.out (by simp [vtimer_Sleeps.j0])
  | succ kj2 =>
   have H := HA.out
   clear HA
   simp only [vtimer_Sleeps.j0] at H
   by_cases c12 : x13_2 = true
   · subst c12
     have H1 : (some (0, false)) = some (r1, r2) := by rw [if_pos rfl] at H; exact H
     clear H
     have H := H1
     clear H1
     simp only [Option.some.injEq, Prod.mk.injEq] at H
     obtain ⟨rfl, rfl⟩ := H
     go_wp2
     go_ret2
     exact ⟨E_, L_⟩
   · replace c12 := Bool.eq_false_iff.mpr c12
     subst c12
     have H1 : ((vtimer_asleep.f a1).bind fun t303 => ((wheel_At.f a0_0 l0_1 t303).bind fun bt304 => (some (bt304.1, bt304.2)))) = some (r1, r2) := by rw [if_neg (show ¬ (false = true) by decide)] at H; exact H
     clear H
     have H := H1
     clear H1
     replace H := Option.bind_eq_some_iff.mp H
     obtain ⟨t303, A130, H⟩ := H
     replace H : ((wheel_At.f a0_0 l0_1 t303).bind fun bt304 => (some (bt304.1, bt304.2))) = some (r1, r2) := H
     have A13 := Aside0.mk A130
     clear A130
     replace H := Option.bind_eq_some_iff.mp H
     obtain ⟨⟨t304, t305⟩, A140, H⟩ := H
     replace H : (some (t304, t305)) = some (r1, r2) := H
     have A14 := Aside0.mk A140
     clear A140
     simp only [Option.some.injEq, Prod.mk.injEq] at H
     obtain ⟨rfl, rfl⟩ := H
     try go_wp2
     have n0_ := Aside0.mk (blk_drew BK300.out)
     have n1_ := Aside0.mk (below_drew1 HB.out)
     clear BK300
     clear HB
     have BK300 := n0_
     have HB := n1_
     clear n0_ n1_
     refine st_ 9 (fun w' => w'.cell? ⟨gb300, 0, none⟩ = some (.int .i64 a0_0) ∧ w'.cell? ⟨gb300, 1, none⟩ = some (.slice A0_1 l0_1.length c0_1) ∧ w'.cell? ⟨gb300, 2, none⟩ = some (.slice A0_2 l0_2.length c0_2)) [] ⟨(blk_cell BK300.out 0).trans rfl, (blk_cell BK300.out 1).trans rfl, (blk_cell BK300.out 2).trans rfl⟩ (fun hHeld => ?_); refine with_tabW vtimer_Sleeps.tab3 vtimer_Sleeps.bits3 (fun HT_ HW_ => ?_)
     generalize wc.drew = w15 at BK300 HB hHeld ⊢
     refine pu_ 0 14 HT_ ?_
     refine pu_ 2 16 HT_ ?_
     refine ta_ 1 15 HT_ HW_ rfl rfl hHeld (by rintro w' ⟨s0, s1, s2⟩; go_simp; with_reducible rfl) ?_
     refine on_ 3 17 HT_ rfl rfl (fun K hK => ?_)
     refine goes_ Try.func41 (by kernel_rfl) rfl #[.int .i64 a1] (by rfl) rfl rfl M_ ?_
     with_reducible refine (vtimer_asleep.calls a1 t303 _ A13.out).mono ?_
     rintro e w' ⟨rfl, ⟨nd, rfl⟩⟩
     refine ⟨_, rfl, ?_⟩
     refine hK.out _ _ ⟨(blk_cell BK300.out 0).trans rfl, (blk_cell BK300.out 1).trans rfl, (blk_cell BK300.out 2).trans rfl⟩ (fun hHeld => ?_)
     clear hK K
     refine nm_ 17 ?_
     refine on_ 4 18 HT_ rfl rfl (fun K hK => ?_)
     refine goes_ Try.func30 (by kernel_rfl) rfl #[.agg #[.int .i64 a0_0, .slice A0_1 l0_1.length c0_1], .int .i64 t303] (by rfl) rfl rfl M_ ?_
     with_reducible refine (wheel_At.calls a0_0 _ _ l0_1 t303 t304 t305 _ ?side1 ?side2 A14.out).mono ?_
     (case side1 => repeat (first | exact (Kd.C_below HR0_1.out L_) | (with_reducible refine Kd.C_alloc ?_ _) | (with_reducible refine Kd.C_drewN ?_ _) | (with_reducible refine Kd.C_drew ?_)))
     (case side2 => exact HC0_1.out)
     rintro e w16 ⟨rfl, hb⟩
     refine ⟨_, rfl, ?_⟩
     have n0_ := Bb_ BK300 hb
     have n1_ := Ls_ HB hb
     clear BK300
     clear HB
     have BK300 := n0_
     have HB := n1_
     clear n0_ n1_
     (try clear hb)
     (try clear hb2)
     (try clear hk)
     (try clear hi)
     refine hK.out _ _ ⟨(blk_cell BK300.out 0).trans rfl, (blk_cell BK300.out 1).trans rfl, (blk_cell BK300.out 2).trans rfl⟩ (fun hHeld => ?_)
     clear hK K
     refine nm_ 18 ?_
     refine pu_ 5 19 HT_ ?_
     refine pu_ 6 20 HT_ ?_
     refine pu_ 7 4 HT_ ?_
     refine pu_ 8 5 HT_ ?_
     refine done_ (done_of HT_.out (by kernel_rfl)) ?_
     try go_wp2
     go_ret2
     exact ⟨E_, L_⟩

/-! ### mainsheetref16_Vcpu: function 47 -/
def mainsheetref16_Vcpu.f (a0 : Int) : Option (Bool) := if a0 ≥ 1 then (some (decide (a0 ≤ 16))) else (some false)
set_option maxHeartbeats 8000000 in
set_option maxRecDepth 100000 in
theorem mainsheetref16_Vcpu.calls (a0 : Int) (r : Bool) (w : World) (h : mainsheetref16_Vcpu.f a0 = some r) :
 Calls Try.prog 47 #[.int .i64 a0] w fun e w' => e = .returned (.bool r) ∧ Drawn0 w w' := by
 have H : (if a0 ≥ 1 then (some (decide (a0 ≤ 16))) else (some false)) = some r := h
 clear h
 by_cases c2 : a0 ≥ 1
 · rw [if_pos c2] at H
   have c2b0 : decide (1 ≤ a0) = true := decide_eq_true c2
   clear c2
   obtain rfl := Option.some.inj H
   go_enter Try.func47, Try.ntmps47
   go_wp2
   go_ret
   exact ⟨by first | rfl | (simp; done) | (simp [*]; done), by repeat (first | exact Drawn0.refl _ | apply Drawn0.step)⟩
 · rw [if_neg c2] at H
   have c2b0 : decide (1 ≤ a0) = false := decide_eq_false c2
   clear c2
   obtain rfl := Option.some.inj H
   go_enter Try.func47, Try.ntmps47
   go_wp2
   go_ret
   exact ⟨by first | rfl | (simp; done) | (simp [*]; done), by repeat (first | exact Drawn0.refl _ | apply Drawn0.step)⟩

/-! ### mainsheetref18_Alarm: function 42 -/
def mainsheetref18_Alarm.f (a0_0 : Int) (a0_1 : Int) (a0_2 : Int) : Option (Bool) := if a0_2 = 0 then ((mainsheetref16_Vcpu.f a0_0).bind fun t307 => (if t307 = true then (if a0_1 ≥ 1 then (if a0_1 ≤ 32 then (some true) else (some false)) else (some false)) else (some false))) else (if a0_2 ≥ 1000 then ((mainsheetref16_Vcpu.f a0_0).bind fun t308 => (if t308 = true then (if a0_1 ≥ 1 then (if a0_1 ≤ 32 then (some (decide (a0_2 ≤ 1125899906842624))) else (some false)) else (some false)) else (some false))) else ((mainsheetref16_Vcpu.f a0_0).bind fun t309 => (if t309 = true then (if a0_1 ≥ 1 then (if a0_1 ≤ 32 then (some false) else (some false)) else (some false)) else (some false))))
set_option maxHeartbeats 8000000 in
set_option maxRecDepth 100000 in
theorem mainsheetref18_Alarm.calls (a0_0 : Int) (a0_1 : Int) (a0_2 : Int) (r : Bool) (w : World) (h : mainsheetref18_Alarm.f a0_0 a0_1 a0_2 = some r) :
 Calls Try.prog 42 #[.agg #[.int .i64 a0_0, .int .i64 a0_1, .int .i64 a0_2]] w fun e w' => e = .returned (.bool r) ∧ Below w.heap.size w w' := by
 have hu47 := Try.underlying47
 have HB := Aside0.mk (Below.refl w.heap.size w)
 have H : (if a0_2 = 0 then ((mainsheetref16_Vcpu.f a0_0).bind fun t307 => (if t307 = true then (if a0_1 ≥ 1 then (if a0_1 ≤ 32 then (some true) else (some false)) else (some false)) else (some false))) else (if a0_2 ≥ 1000 then ((mainsheetref16_Vcpu.f a0_0).bind fun t308 => (if t308 = true then (if a0_1 ≥ 1 then (if a0_1 ≤ 32 then (some (decide (a0_2 ≤ 1125899906842624))) else (some false)) else (some false)) else (some false))) else ((mainsheetref16_Vcpu.f a0_0).bind fun t309 => (if t309 = true then (if a0_1 ≥ 1 then (if a0_1 ≤ 32 then (some false) else (some false)) else (some false)) else (some false))))) = some r := h
 clear h
 by_cases c2 : a0_2 = 0
 · rw [if_pos c2] at H
   have c2b0 : (a0_2 == 0) = true := beq_iff_eq.mpr c2
   have c2b1 : (a0_2 != 0) = false := bne_eq_false_iff_eq.mpr c2
   clear c2
   replace H := Option.bind_eq_some_iff.mp H
   obtain ⟨t307, A30, H⟩ := H
   replace H : (if t307 = true then (if a0_1 ≥ 1 then (if a0_1 ≤ 32 then (some true) else (some false)) else (some false)) else (some false)) = some r := H
   have A3 := Aside0.mk A30
   clear A30
   by_cases c4 : t307 = true
   · subst c4
     have H1 : (if a0_1 ≥ 1 then (if a0_1 ≤ 32 then (some true) else (some false)) else (some false)) = some r := by rw [if_pos rfl] at H; exact H
     clear H
     have H := H1
     clear H1
     by_cases c5 : a0_1 ≥ 1
     · rw [if_pos c5] at H
       have c5b0 : decide (1 ≤ a0_1) = true := decide_eq_true c5
       clear c5
       by_cases c6 : a0_1 ≤ 32
       · rw [if_pos c6] at H
         have c6b0 : decide (a0_1 ≤ 32) = true := decide_eq_true c6
         clear c6
         obtain rfl := Option.some.inj H
         go_enter Try.func42, Try.ntmps42
         go_wp2_with (first | ((with_reducible refine gate_dst (N := 1) rfl ?_); refine box_ 1 47 #[.int .i64 a0_0, .int .i64 a0_1, .int .i64 a0_2] ?_; intro gb306 hg w7 hbox hb; have BK306 := Aside0.mk (hbox); have GW306 := G_ hg HB; have GE306 := G_ hg HB; replace HB := Ls_ HB hb; clear hb hbox hg; have hcz8_0 : w7.cell? ⟨gb306, 0, none⟩ = some (.int .i64 a0_0) := (blk_cell BK306.out 0).trans rfl; have hcz8_1 : w7.cell? ⟨gb306, 1, none⟩ = some (.int .i64 a0_1) := (blk_cell BK306.out 1).trans rfl; have hcz8_2 : w7.cell? ⟨gb306, 2, none⟩ = some (.int .i64 a0_2) := (blk_cell BK306.out 2).trans rfl; have hfz8_0 := blk_frozen BK306.out 0; have hfz8_1 := blk_frozen BK306.out 1; have hfz8_2 := blk_frozen BK306.out 2) | ((with_reducible refine gate_callee (f := 47) rfl ?_); refine goesL_ (some 19) rfl rfl Try.func47 (by kernel_rfl) rfl #[.int .i64 a0_0] rfl M_ ?_; (with_reducible refine (mainsheetref16_Vcpu.calls a0_0 true _ A3.out).mono ?_); rintro e w' ⟨rfl, ⟨nd, rfl⟩⟩; refine ⟨_, rfl, ?_⟩))
         go_ret
         exact ⟨E_, L_⟩
       · rw [if_neg c6] at H
         have c6b0 : decide (a0_1 ≤ 32) = false := decide_eq_false c6
         clear c6
         obtain rfl := Option.some.inj H
         go_enter Try.func42, Try.ntmps42
         go_wp2_with (first | ((with_reducible refine gate_dst (N := 1) rfl ?_); refine box_ 1 47 #[.int .i64 a0_0, .int .i64 a0_1, .int .i64 a0_2] ?_; intro gb306 hg w9 hbox hb; have BK306 := Aside0.mk (hbox); have GW306 := G_ hg HB; have GE306 := G_ hg HB; replace HB := Ls_ HB hb; clear hb hbox hg; have hcz10_0 : w9.cell? ⟨gb306, 0, none⟩ = some (.int .i64 a0_0) := (blk_cell BK306.out 0).trans rfl; have hcz10_1 : w9.cell? ⟨gb306, 1, none⟩ = some (.int .i64 a0_1) := (blk_cell BK306.out 1).trans rfl; have hcz10_2 : w9.cell? ⟨gb306, 2, none⟩ = some (.int .i64 a0_2) := (blk_cell BK306.out 2).trans rfl; have hfz10_0 := blk_frozen BK306.out 0; have hfz10_1 := blk_frozen BK306.out 1; have hfz10_2 := blk_frozen BK306.out 2) | ((with_reducible refine gate_callee (f := 47) rfl ?_); refine goesL_ (some 19) rfl rfl Try.func47 (by kernel_rfl) rfl #[.int .i64 a0_0] rfl M_ ?_; (with_reducible refine (mainsheetref16_Vcpu.calls a0_0 true _ A3.out).mono ?_); rintro e w' ⟨rfl, ⟨nd, rfl⟩⟩; refine ⟨_, rfl, ?_⟩))
         go_ret
         exact ⟨E_, L_⟩
     · rw [if_neg c5] at H
       have c5b0 : decide (1 ≤ a0_1) = false := decide_eq_false c5
       clear c5
       obtain rfl := Option.some.inj H
       go_enter Try.func42, Try.ntmps42
       go_wp2_with (first | ((with_reducible refine gate_dst (N := 1) rfl ?_); refine box_ 1 47 #[.int .i64 a0_0, .int .i64 a0_1, .int .i64 a0_2] ?_; intro gb306 hg w11 hbox hb; have BK306 := Aside0.mk (hbox); have GW306 := G_ hg HB; have GE306 := G_ hg HB; replace HB := Ls_ HB hb; clear hb hbox hg; have hcz12_0 : w11.cell? ⟨gb306, 0, none⟩ = some (.int .i64 a0_0) := (blk_cell BK306.out 0).trans rfl; have hcz12_1 : w11.cell? ⟨gb306, 1, none⟩ = some (.int .i64 a0_1) := (blk_cell BK306.out 1).trans rfl; have hcz12_2 : w11.cell? ⟨gb306, 2, none⟩ = some (.int .i64 a0_2) := (blk_cell BK306.out 2).trans rfl; have hfz12_0 := blk_frozen BK306.out 0; have hfz12_1 := blk_frozen BK306.out 1; have hfz12_2 := blk_frozen BK306.out 2) | ((with_reducible refine gate_callee (f := 47) rfl ?_); refine goesL_ (some 19) rfl rfl Try.func47 (by kernel_rfl) rfl #[.int .i64 a0_0] rfl M_ ?_; (with_reducible refine (mainsheetref16_Vcpu.calls a0_0 true _ A3.out).mono ?_); rintro e w' ⟨rfl, ⟨nd, rfl⟩⟩; refine ⟨_, rfl, ?_⟩))
       go_ret
       exact ⟨E_, L_⟩
   · replace c4 := Bool.eq_false_iff.mpr c4
     subst c4
     have H1 : (some false) = some r := by rw [if_neg (show ¬ (false = true) by decide)] at H; exact H
     clear H
     have H := H1
     clear H1
     obtain rfl := Option.some.inj H
     go_enter Try.func42, Try.ntmps42
     go_wp2_with (first | ((with_reducible refine gate_dst (N := 1) rfl ?_); refine box_ 1 47 #[.int .i64 a0_0, .int .i64 a0_1, .int .i64 a0_2] ?_; intro gb306 hg w13 hbox hb; have BK306 := Aside0.mk (hbox); have GW306 := G_ hg HB; have GE306 := G_ hg HB; replace HB := Ls_ HB hb; clear hb hbox hg; have hcz14_0 : w13.cell? ⟨gb306, 0, none⟩ = some (.int .i64 a0_0) := (blk_cell BK306.out 0).trans rfl; have hcz14_1 : w13.cell? ⟨gb306, 1, none⟩ = some (.int .i64 a0_1) := (blk_cell BK306.out 1).trans rfl; have hcz14_2 : w13.cell? ⟨gb306, 2, none⟩ = some (.int .i64 a0_2) := (blk_cell BK306.out 2).trans rfl; have hfz14_0 := blk_frozen BK306.out 0; have hfz14_1 := blk_frozen BK306.out 1; have hfz14_2 := blk_frozen BK306.out 2) | ((with_reducible refine gate_callee (f := 47) rfl ?_); refine goesL_ (some 19) rfl rfl Try.func47 (by kernel_rfl) rfl #[.int .i64 a0_0] rfl M_ ?_; (with_reducible refine (mainsheetref16_Vcpu.calls a0_0 false _ A3.out).mono ?_); rintro e w' ⟨rfl, ⟨nd, rfl⟩⟩; refine ⟨_, rfl, ?_⟩))
     go_ret
     exact ⟨E_, L_⟩
 · rw [if_neg c2] at H
   have c2b0 : (a0_2 == 0) = false := beq_eq_false_iff_ne.mpr c2
   have c2b1 : (a0_2 != 0) = true := bne_iff_ne.mpr c2
   by_cases c15 : a0_2 ≥ 1000
   · rw [if_pos c15] at H
     have c15b0 : decide (1000 ≤ a0_2) = true := decide_eq_true c15
     clear c15
     replace H := Option.bind_eq_some_iff.mp H
     obtain ⟨t308, A160, H⟩ := H
     replace H : (if t308 = true then (if a0_1 ≥ 1 then (if a0_1 ≤ 32 then (some (decide (a0_2 ≤ 1125899906842624))) else (some false)) else (some false)) else (some false)) = some r := H
     have A16 := Aside0.mk A160
     clear A160
     by_cases c17 : t308 = true
     · subst c17
       have H1 : (if a0_1 ≥ 1 then (if a0_1 ≤ 32 then (some (decide (a0_2 ≤ 1125899906842624))) else (some false)) else (some false)) = some r := by rw [if_pos rfl] at H; exact H
       clear H
       have H := H1
       clear H1
       by_cases c18 : a0_1 ≥ 1
       · rw [if_pos c18] at H
         have c18b0 : decide (1 ≤ a0_1) = true := decide_eq_true c18
         clear c18
         by_cases c19 : a0_1 ≤ 32
         · rw [if_pos c19] at H
           have c19b0 : decide (a0_1 ≤ 32) = true := decide_eq_true c19
           clear c19
           obtain rfl := Option.some.inj H
           go_enter Try.func42, Try.ntmps42
           go_wp2_with (first | ((with_reducible refine gate_dst (N := 1) rfl ?_); refine box_ 1 47 #[.int .i64 a0_0, .int .i64 a0_1, .int .i64 a0_2] ?_; intro gb306 hg w20 hbox hb; have BK306 := Aside0.mk (hbox); have GW306 := G_ hg HB; have GE306 := G_ hg HB; replace HB := Ls_ HB hb; clear hb hbox hg; have hcz21_0 : w20.cell? ⟨gb306, 0, none⟩ = some (.int .i64 a0_0) := (blk_cell BK306.out 0).trans rfl; have hcz21_1 : w20.cell? ⟨gb306, 1, none⟩ = some (.int .i64 a0_1) := (blk_cell BK306.out 1).trans rfl; have hcz21_2 : w20.cell? ⟨gb306, 2, none⟩ = some (.int .i64 a0_2) := (blk_cell BK306.out 2).trans rfl; have hfz21_0 := blk_frozen BK306.out 0; have hfz21_1 := blk_frozen BK306.out 1; have hfz21_2 := blk_frozen BK306.out 2) | ((with_reducible refine gate_callee (f := 47) rfl ?_); refine goesL_ (some 19) rfl rfl Try.func47 (by kernel_rfl) rfl #[.int .i64 a0_0] rfl M_ ?_; (with_reducible refine (mainsheetref16_Vcpu.calls a0_0 true _ A16.out).mono ?_); rintro e w' ⟨rfl, ⟨nd, rfl⟩⟩; refine ⟨_, rfl, ?_⟩))
           go_ret
           exact ⟨E_, L_⟩
         · rw [if_neg c19] at H
           have c19b0 : decide (a0_1 ≤ 32) = false := decide_eq_false c19
           clear c19
           obtain rfl := Option.some.inj H
           go_enter Try.func42, Try.ntmps42
           go_wp2_with (first | ((with_reducible refine gate_dst (N := 1) rfl ?_); refine box_ 1 47 #[.int .i64 a0_0, .int .i64 a0_1, .int .i64 a0_2] ?_; intro gb306 hg w22 hbox hb; have BK306 := Aside0.mk (hbox); have GW306 := G_ hg HB; have GE306 := G_ hg HB; replace HB := Ls_ HB hb; clear hb hbox hg; have hcz23_0 : w22.cell? ⟨gb306, 0, none⟩ = some (.int .i64 a0_0) := (blk_cell BK306.out 0).trans rfl; have hcz23_1 : w22.cell? ⟨gb306, 1, none⟩ = some (.int .i64 a0_1) := (blk_cell BK306.out 1).trans rfl; have hcz23_2 : w22.cell? ⟨gb306, 2, none⟩ = some (.int .i64 a0_2) := (blk_cell BK306.out 2).trans rfl; have hfz23_0 := blk_frozen BK306.out 0; have hfz23_1 := blk_frozen BK306.out 1; have hfz23_2 := blk_frozen BK306.out 2) | ((with_reducible refine gate_callee (f := 47) rfl ?_); refine goesL_ (some 19) rfl rfl Try.func47 (by kernel_rfl) rfl #[.int .i64 a0_0] rfl M_ ?_; (with_reducible refine (mainsheetref16_Vcpu.calls a0_0 true _ A16.out).mono ?_); rintro e w' ⟨rfl, ⟨nd, rfl⟩⟩; refine ⟨_, rfl, ?_⟩))
           go_ret
           exact ⟨E_, L_⟩
       · rw [if_neg c18] at H
         have c18b0 : decide (1 ≤ a0_1) = false := decide_eq_false c18
         clear c18
         obtain rfl := Option.some.inj H
         go_enter Try.func42, Try.ntmps42
         go_wp2_with (first | ((with_reducible refine gate_dst (N := 1) rfl ?_); refine box_ 1 47 #[.int .i64 a0_0, .int .i64 a0_1, .int .i64 a0_2] ?_; intro gb306 hg w24 hbox hb; have BK306 := Aside0.mk (hbox); have GW306 := G_ hg HB; have GE306 := G_ hg HB; replace HB := Ls_ HB hb; clear hb hbox hg; have hcz25_0 : w24.cell? ⟨gb306, 0, none⟩ = some (.int .i64 a0_0) := (blk_cell BK306.out 0).trans rfl; have hcz25_1 : w24.cell? ⟨gb306, 1, none⟩ = some (.int .i64 a0_1) := (blk_cell BK306.out 1).trans rfl; have hcz25_2 : w24.cell? ⟨gb306, 2, none⟩ = some (.int .i64 a0_2) := (blk_cell BK306.out 2).trans rfl; have hfz25_0 := blk_frozen BK306.out 0; have hfz25_1 := blk_frozen BK306.out 1; have hfz25_2 := blk_frozen BK306.out 2) | ((with_reducible refine gate_callee (f := 47) rfl ?_); refine goesL_ (some 19) rfl rfl Try.func47 (by kernel_rfl) rfl #[.int .i64 a0_0] rfl M_ ?_; (with_reducible refine (mainsheetref16_Vcpu.calls a0_0 true _ A16.out).mono ?_); rintro e w' ⟨rfl, ⟨nd, rfl⟩⟩; refine ⟨_, rfl, ?_⟩))
         go_ret
         exact ⟨E_, L_⟩
     · replace c17 := Bool.eq_false_iff.mpr c17
       subst c17
       have H1 : (some false) = some r := by rw [if_neg (show ¬ (false = true) by decide)] at H; exact H
       clear H
       have H := H1
       clear H1
       obtain rfl := Option.some.inj H
       go_enter Try.func42, Try.ntmps42
       go_wp2_with (first | ((with_reducible refine gate_dst (N := 1) rfl ?_); refine box_ 1 47 #[.int .i64 a0_0, .int .i64 a0_1, .int .i64 a0_2] ?_; intro gb306 hg w26 hbox hb; have BK306 := Aside0.mk (hbox); have GW306 := G_ hg HB; have GE306 := G_ hg HB; replace HB := Ls_ HB hb; clear hb hbox hg; have hcz27_0 : w26.cell? ⟨gb306, 0, none⟩ = some (.int .i64 a0_0) := (blk_cell BK306.out 0).trans rfl; have hcz27_1 : w26.cell? ⟨gb306, 1, none⟩ = some (.int .i64 a0_1) := (blk_cell BK306.out 1).trans rfl; have hcz27_2 : w26.cell? ⟨gb306, 2, none⟩ = some (.int .i64 a0_2) := (blk_cell BK306.out 2).trans rfl; have hfz27_0 := blk_frozen BK306.out 0; have hfz27_1 := blk_frozen BK306.out 1; have hfz27_2 := blk_frozen BK306.out 2) | ((with_reducible refine gate_callee (f := 47) rfl ?_); refine goesL_ (some 19) rfl rfl Try.func47 (by kernel_rfl) rfl #[.int .i64 a0_0] rfl M_ ?_; (with_reducible refine (mainsheetref16_Vcpu.calls a0_0 false _ A16.out).mono ?_); rintro e w' ⟨rfl, ⟨nd, rfl⟩⟩; refine ⟨_, rfl, ?_⟩))
       go_ret
       exact ⟨E_, L_⟩
   · rw [if_neg c15] at H
     have c15b0 : decide (1000 ≤ a0_2) = false := decide_eq_false c15
     clear c15
     replace H := Option.bind_eq_some_iff.mp H
     obtain ⟨t309, A280, H⟩ := H
     replace H : (if t309 = true then (if a0_1 ≥ 1 then (if a0_1 ≤ 32 then (some false) else (some false)) else (some false)) else (some false)) = some r := H
     have A28 := Aside0.mk A280
     clear A280
     by_cases c29 : t309 = true
     · subst c29
       have H1 : (if a0_1 ≥ 1 then (if a0_1 ≤ 32 then (some false) else (some false)) else (some false)) = some r := by rw [if_pos rfl] at H; exact H
       clear H
       have H := H1
       clear H1
       by_cases c30 : a0_1 ≥ 1
       · rw [if_pos c30] at H
         have c30b0 : decide (1 ≤ a0_1) = true := decide_eq_true c30
         clear c30
         by_cases c31 : a0_1 ≤ 32
         · rw [if_pos c31] at H
           have c31b0 : decide (a0_1 ≤ 32) = true := decide_eq_true c31
           clear c31
           obtain rfl := Option.some.inj H
           go_enter Try.func42, Try.ntmps42
           go_wp2_with (first | ((with_reducible refine gate_dst (N := 1) rfl ?_); refine box_ 1 47 #[.int .i64 a0_0, .int .i64 a0_1, .int .i64 a0_2] ?_; intro gb306 hg w32 hbox hb; have BK306 := Aside0.mk (hbox); have GW306 := G_ hg HB; have GE306 := G_ hg HB; replace HB := Ls_ HB hb; clear hb hbox hg; have hcz33_0 : w32.cell? ⟨gb306, 0, none⟩ = some (.int .i64 a0_0) := (blk_cell BK306.out 0).trans rfl; have hcz33_1 : w32.cell? ⟨gb306, 1, none⟩ = some (.int .i64 a0_1) := (blk_cell BK306.out 1).trans rfl; have hcz33_2 : w32.cell? ⟨gb306, 2, none⟩ = some (.int .i64 a0_2) := (blk_cell BK306.out 2).trans rfl; have hfz33_0 := blk_frozen BK306.out 0; have hfz33_1 := blk_frozen BK306.out 1; have hfz33_2 := blk_frozen BK306.out 2) | ((with_reducible refine gate_callee (f := 47) rfl ?_); refine goesL_ (some 19) rfl rfl Try.func47 (by kernel_rfl) rfl #[.int .i64 a0_0] rfl M_ ?_; (with_reducible refine (mainsheetref16_Vcpu.calls a0_0 true _ A28.out).mono ?_); rintro e w' ⟨rfl, ⟨nd, rfl⟩⟩; refine ⟨_, rfl, ?_⟩))
           go_ret
           exact ⟨E_, L_⟩
         · rw [if_neg c31] at H
           have c31b0 : decide (a0_1 ≤ 32) = false := decide_eq_false c31
           clear c31
           obtain rfl := Option.some.inj H
           go_enter Try.func42, Try.ntmps42
           go_wp2_with (first | ((with_reducible refine gate_dst (N := 1) rfl ?_); refine box_ 1 47 #[.int .i64 a0_0, .int .i64 a0_1, .int .i64 a0_2] ?_; intro gb306 hg w34 hbox hb; have BK306 := Aside0.mk (hbox); have GW306 := G_ hg HB; have GE306 := G_ hg HB; replace HB := Ls_ HB hb; clear hb hbox hg; have hcz35_0 : w34.cell? ⟨gb306, 0, none⟩ = some (.int .i64 a0_0) := (blk_cell BK306.out 0).trans rfl; have hcz35_1 : w34.cell? ⟨gb306, 1, none⟩ = some (.int .i64 a0_1) := (blk_cell BK306.out 1).trans rfl; have hcz35_2 : w34.cell? ⟨gb306, 2, none⟩ = some (.int .i64 a0_2) := (blk_cell BK306.out 2).trans rfl; have hfz35_0 := blk_frozen BK306.out 0; have hfz35_1 := blk_frozen BK306.out 1; have hfz35_2 := blk_frozen BK306.out 2) | ((with_reducible refine gate_callee (f := 47) rfl ?_); refine goesL_ (some 19) rfl rfl Try.func47 (by kernel_rfl) rfl #[.int .i64 a0_0] rfl M_ ?_; (with_reducible refine (mainsheetref16_Vcpu.calls a0_0 true _ A28.out).mono ?_); rintro e w' ⟨rfl, ⟨nd, rfl⟩⟩; refine ⟨_, rfl, ?_⟩))
           go_ret
           exact ⟨E_, L_⟩
       · rw [if_neg c30] at H
         have c30b0 : decide (1 ≤ a0_1) = false := decide_eq_false c30
         clear c30
         obtain rfl := Option.some.inj H
         go_enter Try.func42, Try.ntmps42
         go_wp2_with (first | ((with_reducible refine gate_dst (N := 1) rfl ?_); refine box_ 1 47 #[.int .i64 a0_0, .int .i64 a0_1, .int .i64 a0_2] ?_; intro gb306 hg w36 hbox hb; have BK306 := Aside0.mk (hbox); have GW306 := G_ hg HB; have GE306 := G_ hg HB; replace HB := Ls_ HB hb; clear hb hbox hg; have hcz37_0 : w36.cell? ⟨gb306, 0, none⟩ = some (.int .i64 a0_0) := (blk_cell BK306.out 0).trans rfl; have hcz37_1 : w36.cell? ⟨gb306, 1, none⟩ = some (.int .i64 a0_1) := (blk_cell BK306.out 1).trans rfl; have hcz37_2 : w36.cell? ⟨gb306, 2, none⟩ = some (.int .i64 a0_2) := (blk_cell BK306.out 2).trans rfl; have hfz37_0 := blk_frozen BK306.out 0; have hfz37_1 := blk_frozen BK306.out 1; have hfz37_2 := blk_frozen BK306.out 2) | ((with_reducible refine gate_callee (f := 47) rfl ?_); refine goesL_ (some 19) rfl rfl Try.func47 (by kernel_rfl) rfl #[.int .i64 a0_0] rfl M_ ?_; (with_reducible refine (mainsheetref16_Vcpu.calls a0_0 true _ A28.out).mono ?_); rintro e w' ⟨rfl, ⟨nd, rfl⟩⟩; refine ⟨_, rfl, ?_⟩))
         go_ret
         exact ⟨E_, L_⟩
     · replace c29 := Bool.eq_false_iff.mpr c29
       subst c29
       have H1 : (some false) = some r := by rw [if_neg (show ¬ (false = true) by decide)] at H; exact H
       clear H
       have H := H1
       clear H1
       obtain rfl := Option.some.inj H
       go_enter Try.func42, Try.ntmps42
       go_wp2_with (first | ((with_reducible refine gate_dst (N := 1) rfl ?_); refine box_ 1 47 #[.int .i64 a0_0, .int .i64 a0_1, .int .i64 a0_2] ?_; intro gb306 hg w38 hbox hb; have BK306 := Aside0.mk (hbox); have GW306 := G_ hg HB; have GE306 := G_ hg HB; replace HB := Ls_ HB hb; clear hb hbox hg; have hcz39_0 : w38.cell? ⟨gb306, 0, none⟩ = some (.int .i64 a0_0) := (blk_cell BK306.out 0).trans rfl; have hcz39_1 : w38.cell? ⟨gb306, 1, none⟩ = some (.int .i64 a0_1) := (blk_cell BK306.out 1).trans rfl; have hcz39_2 : w38.cell? ⟨gb306, 2, none⟩ = some (.int .i64 a0_2) := (blk_cell BK306.out 2).trans rfl; have hfz39_0 := blk_frozen BK306.out 0; have hfz39_1 := blk_frozen BK306.out 1; have hfz39_2 := blk_frozen BK306.out 2) | ((with_reducible refine gate_callee (f := 47) rfl ?_); refine goesL_ (some 19) rfl rfl Try.func47 (by kernel_rfl) rfl #[.int .i64 a0_0] rfl M_ ?_; (with_reducible refine (mainsheetref16_Vcpu.calls a0_0 false _ A28.out).mono ?_); rintro e w' ⟨rfl, ⟨nd, rfl⟩⟩; refine ⟨_, rfl, ?_⟩))
       go_ret
       exact ⟨E_, L_⟩

end Go.Proofs.Ytlddekjlmkimnaa.C
