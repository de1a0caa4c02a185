import Derived.Test.YtolaaplnoahnkaaHslot
import Derived.Test.YtolaaplnoahnkaaC2
import Derived.StillTailTactics
import Derived.Sort.Grow
namespace Go.Proofs.Ytolaaplnoahnkaa.C
open Go.RowKit Go.Sort Go.Proofs.YtolaaplnoahnkaaW.PrintWords Go.Proofs.YtolaaplnoahnkaaW.PrintLast Go.Proofs.YtolaaplnoahnkaaW.PrintMore
set_option linter.unusedVariables false
set_option linter.unusedSimpArgs false

/-- The first of two numbers that is not 0. -/
def or2 (x y : Int) : Int := if x = 0 then y else x
theorem or_f (x y : Int) : cmp_Or_int.f 4 [x, y] = some (or2 x y) := by
  unfold cmp_Or_int.f or2
  by_cases hx : x = 0
  · subst hx
    by_cases hy : y = 0
    · subst hy; simp [cmp_Or_int.l0, rd, wrap64]
    · simp [cmp_Or_int.l0, rd, wrap64, hy]
  · simp [cmp_Or_int.l0, rd, wrap64, hx]

def ordF (a b : S33) : Int := or2 (cmp3 a.f1 b.f1) (cmp3 a.f0 b.f0)
theorem reads2 (w : World) (g : Nat) (x y : Int) (h0 : w.cell? ⟨g, 0, none⟩ = some (.int .i64 x)) (h1 : w.cell? ⟨g, 1, none⟩ = some (.int .i64 y)) : Kd.C (Kd.int .i64) w (some ⟨g, 0, none⟩) 2 [x, y] := by
  refine ⟨rfl, by omega, fun _ => ⟨_, rfl, fun j p hj => ?_⟩⟩
  match j, hj with
  | 0, hj => obtain rfl : x = p := by simpa using hj
             exact ⟨[.int .i64 x], rfl, rfl, fun i u hu => by
               match i, hu with
               | 0, hu => obtain rfl : .int .i64 x = u := by simpa using hu
                          exact h0⟩
  | 1, hj => obtain rfl : y = p := by simpa using hj
             exact ⟨[.int .i64 y], rfl, rfl, fun i u hu => by
               match i, hu with
               | 0, hu => obtain rfl : .int .i64 y = u := by simpa using hu
                          exact h1⟩

theorem drew_grow_n (w : World) (os : Array Obj) (m : Nat) : (grow w os).drewN m = grow (w.drewN m) os := rfl
theorem grow3 (w : World) (A B C : Obj) : ((w.alloc A).alloc B).alloc C = grow w #[A, B, C] := by
  rw [alloc_eq_grow, alloc_eq_grow, alloc_eq_grow, grow_grow, grow_grow]; rfl

set_option maxRecDepth 100000 in
set_option maxHeartbeats 1000000 in
theorem order_any (a b : S33) (w : World) : Calls Try.prog 28 #[.agg #[.int .i64 a.f0, .int .i64 a.f1], .agg #[.int .i64 b.f0, .int .i64 b.f1]] w fun e w' => e = .returned (.int .i64 (ordF a b)) ∧ ∃ q os, w' = grow (w.drewN q) os := by
  have c1 := fun W => cmp41 a.f1 b.f1 W
  have c2 := fun W => cmp42 a.f0 b.f0 W
  have hfin : ordF a b = or2 (cmp3 a.f1 b.f1) (cmp3 a.f0 b.f0) := rfl
  generalize cmp3 a.f1 b.f1 = x at *
  generalize cmp3 a.f0 b.f0 = y at *
  have HF := Lib.hid hfin
  have C1 := Lib.hid c1
  have C2 := Lib.hid c2
  clear hfin c1 c2
  obtain ⟨W1, hW1⟩ : ∃ W1, (w.alloc (.cells #[.int .i64 a.f0, .int .i64 a.f1] 33)).alloc (.cells #[.int .i64 b.f0, .int .i64 b.f1] 33) = W1 := ⟨_, rfl⟩
  have a0 : W1.cell? ⟨w.heap.size, 0, none⟩ = some (.int .i64 a.f0) := by subst hW1; go_simp
  have a1 : W1.cell? ⟨w.heap.size, 1, none⟩ = some (.int .i64 a.f1) := by subst hW1; go_simp
  have b0 : W1.cell? ⟨w.heap.size + 1, 0, none⟩ = some (.int .i64 b.f0) := by subst hW1; go_simp
  have b1 : W1.cell? ⟨w.heap.size + 1, 1, none⟩ = some (.int .i64 b.f1) := by subst hW1; go_simp
  go_enter Try.func28, Try.ntmps28
  go_wp2_with fail
  have HW := Lib.hid hW1
  clear hW1
  go_still_tail 10, (by kernel_rfl)
  still_call ((C1.out _).mono fun e w' h => ⟨h.1, h.2.symm⟩)
  repeat still_step
  still_call ((C2.out _).mono fun e w' h => ⟨h.1, h.2.symm⟩)
  refine wpStill_nil ?_
  go_wp2_with fail
  refine (cmp_Or_int.calls 4 _ _ [x, y] (or2 x y) _ (reads2 _ _ x y (by go_simp) (by go_simp)) (by simp) (or_f x y)).mono ?_
  rintro e w2 ⟨rfl, ⟨m, rfl⟩⟩
  go_wp2
  go_ret
  refine ⟨by rw [HF.out]; rfl, 1 + m, #[.cells #[.int .i64 a.f0, .int .i64 a.f1] 33, .cells #[.int .i64 b.f0, .int .i64 b.f1] 33, .cells #[.int .i64 x, .int .i64 y] 3], ?_⟩
  rw [← HW.out]
  rw [grow3, drew_grow_n]
end Go.Proofs.Ytolaaplnoahnkaa.C
