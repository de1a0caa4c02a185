import Derived.Test.YtolaaplnoahnkaaHsorted
namespace Go.Proofs.Ytolaaplnoahnkaa.C
open Go.RowKit Go.Sort Go.Proofs.YtolaaplnoahnkaaW.PrintWords Go.Proofs.YtolaaplnoahnkaaW.PrintLast Go.Proofs.YtolaaplnoahnkaaW.PrintMore
set_option linter.unusedVariables false
set_option linter.unusedSimpArgs false

/-- The first of the least among the first k + 1 timers. -/
def minK (l : List S33) : Nat → S33
  | 0 => l.getD 0 z33
  | k + 1 => if ordF (l.getD (k + 1) z33) (minK l k) < 0 then l.getD (k + 1) z33 else minK l k

theorem below_grown {w wr : World} (hb : RowKit.Below w.heap.size w wr) (n : Nat) (os : Array Obj) : RowKit.Below w.heap.size w (grow (wr.drewN n) os) :=
  ⟨hb.os, hb.tape, hb.output, Nat.le_trans hb.size (by simp), fun k hk => (heap_grow_old _ os (Nat.lt_of_lt_of_le hk (by simpa using hb.size))).trans (hb.block k hk)⟩
theorem blk_grow {wr : World} {g : Nat} {o : Obj} (h : wr.heap[g]? = some o) (n : Nat) (os : Array Obj) : (grow (wr.drewN n) os).heap[g]? = some o :=
  (heap_grow_old _ os (by simpa using blk_lt h)).trans h

set_option maxRecDepth 100000 in
set_option maxHeartbeats 2000000 in
theorem minfunc (A : Option Addr) (c : Nat) (l : List S33) (w : World) (hr : Kd.C k33 w A l.length l) (hn : l.length ≤ 1000000) (h0 : 0 < l.length) :
    Calls Try.prog 27 #[.slice A l.length c, .func (.func 28) #[] #[]] w fun e w' => e = .returned (.agg #[.int .i64 (minK l (l.length - 1)).f0, .int .i64 (minK l (l.length - 1)).f1]) ∧ Below w.heap.size w w' := by
  have mixed : Try.prog.follows .mixedOrders = true := by kernel_rfl
  obtain ⟨W1, hW1⟩ : ∃ W1, (w.alloc (.cells #[.int .i64 0, .int .i64 0] 33)).alloc (.cells #[.int .i64 (minK l 0).f0, .int .i64 (minK l 0).f1] 33) = W1 := ⟨_, rfl⟩
  have hb1 : Below w.heap.size w W1 := by subst hW1; exact ((Below.refl _ _).alloc (Nat.le_refl _) _).alloc (by simp) _
  have k1 : W1.heap[w.heap.size + 1]? = some (.cells #[.int .i64 (minK l 0).f0, .int .i64 (minK l 0).f1] 33 (0, 0)) := by
    subst hW1; have := blk_new (w.alloc (.cells #[.int .i64 0, .int .i64 0] 33)) (.cells #[.int .i64 (minK l 0).f0, .int .i64 (minK l 0).f1] 33); rwa [World.size_alloc] at this
  have k0 : W1.heap[w.heap.size]? = some (.cells #[.int .i64 0, .int .i64 0] 33 (0, 0)) := by
    subst hW1; exact blk_alloc (blk_new w _) _
  obtain ⟨ad, rfl, c0, c1⟩ := atN hr 0 h0
  have hz : minK l 0 = l.getD 0 z33 := rfl
  have hl1 : decide (l.length < 1) = false := decide_eq_false (by omega)
  have hl1' : decide ((l.length : Int) < 1) = false := decide_eq_false (by omega)
  rw [← hz] at c0 c1
  have q0 : (w.alloc (.cells #[.int .i64 0, .int .i64 0] 33)).cell? ad = some (.int .i64 (minK l 0).f0) := by
    have h := (World.cell?_of_block (w' := w.alloc (.cells #[.int .i64 0, .int .i64 0] 33)) (a := ad.add (0 * 2)) (Below.heap_alloc _ _ _ (World.block_lt_of_cell? w _ c0))).trans c0
    simpa [Addr.add] using h
  have q1 : (w.alloc (.cells #[.int .i64 0, .int .i64 0] 33)).cell? ⟨ad.block, ad.off + 1, none⟩ = some (.int .i64 (minK l 0).f1) := by
    have h := (World.cell?_of_block (w' := w.alloc (.cells #[.int .i64 0, .int .i64 0] 33)) (a := ⟨(ad.add (0 * 2)).block, (ad.add (0 * 2)).off + 1, none⟩) (Below.heap_alloc _ _ _ (World.block_lt_of_cell? w _ c1))).trans c1
    simpa [Addr.add] using h
  clear hz
  go_enter Try.func27, Try.ntmps27
  go_wp2_with fail
  have HW := Lib.hid hW1
  clear hW1
  clear q0 q1 c0 c1 hl1 hl1'
  go_loopw [6] (fun i wr => ∃ k : Nat, k + 1 ≤ l.length ∧ i = .int .i64 ((k + 1 : Nat) : Int) ∧ Hid (wr.heap[w.heap.size + 1]? = some (.cells #[.int .i64 (minK l k).f0, .int .i64 (minK l k).f1] 33 (0, 0))) ∧ Hid (wr.heap[w.heap.size]? = some (.cells #[.int .i64 0, .int .i64 0] 33 (0, 0))) ∧ RowKit.Below w.heap.size w wr) (fun i _ => l.length - (intOf i).toNat)
  case atStart => exact ⟨0, by omega, rfl, k1, k0, hb1⟩
  case round =>
    obtain ⟨k, hk, rfl, K1, K0, hb⟩ := hrel
    have hl1 := blk_lt K1.out
    by_cases hlt : k + 1 < l.length
    · obtain ⟨ad', e, c0, c1⟩ := atN (Kd.C_below hr hb) (k + 1) hlt
      cases e
      have hstep : minK l (k + 1) = if ordF (l.getD (k + 1) z33) (minK l k) < 0 then l.getD (k + 1) z33 else minK l k := rfl
      have m0 := blk_cell K1.out 0
      have m1 := blk_cell K1.out 1
      have f0 := blk_frozen K1.out 0
      have f1 := blk_frozen K1.out 1
      simp at m0 m1
      generalize l.getD (k + 1) z33 = T at *
      have hbl := World.block_lt_of_cell? _ _ c0
      have g0 := fun n os => cell_grown hbl c0 n os
      have g1 := fun n os => cell_grown (World.block_lt_of_cell? _ _ c1) c1 n os
      have g2 := fun n os => cell_grown (a := ⟨w.heap.size + 1, 0, none⟩) hl1 m0 n os
      have g3 := fun n os => cell_grown (a := ⟨w.heap.size + 1, 1, none⟩) hl1 m1 n os
      by_cases d : ordF T (minK l k) < 0
      · have e1 : decide (ordF T (minK l k) < 0) = true := decide_eq_true d
        rw [if_pos d] at hstep
        have HS := Lib.hid hstep
        clear hstep d
        generalize hM : minK l k = M at *
        have HM := Lib.hid hM
        clear hM
        go_wp2_with fail
        have x1 : 0 ≤ (k : Int) + 1 := by omega
        have x2 : (k : Int) + 1 < l.length := by omega
        have x3 : ((k : Int) + 1).toNat = k + 1 := by omega
        go_quiet_grown (first | (go_at_call 28; exact Calls.grown_of (order_any T M _)))
        have r0 := blk_frozen (blk_grow K1.out nq osq) 0
        have r1 := blk_frozen (blk_grow K1.out nq osq) 1
        have KN : Hid ((((grow (wr.drewN nq) osq).setCell ⟨w.heap.size + 1, 0, none⟩ (.int .i64 T.f0)).setCell ⟨w.heap.size + 1, 1, none⟩ (.int .i64 T.f1)).heap[w.heap.size + 1]? = some (.cells #[.int .i64 T.f0, .int .i64 T.f1] 33 (0, 0))) := blk_put (blk_put (blk_grow K1.out nq osq) 0 (.int .i64 T.f0) rfl) 1 (.int .i64 T.f1) rfl
        have K0' := Lib.hid (blk_far (blk_far (blk_grow K0.out nq osq) (p := ⟨w.heap.size + 1, 0, none⟩) (by simp) (.int .i64 T.f0)) (p := ⟨w.heap.size + 1, 1, none⟩) (by simp) (.int .i64 T.f1))
        have HB' := Lib.hid (((below_grown hb nq osq).setCell (p := ⟨w.heap.size + 1, 0, none⟩) (by simp) (.int .i64 T.f0)).setCell (p := ⟨w.heap.size + 1, 1, none⟩) (by simp) (.int .i64 T.f1))
        go_wp2
        go_roundw
        case rel => exact ⟨k + 1, by omega, by go_num, by rw [HS.out]; exact KN, K0'.out, HB'.out⟩
        case measure => simp [intOf]; omega
      · have e1 : decide (ordF T (minK l k) < 0) = false := decide_eq_false d
        rw [if_neg d] at hstep
        have HS := Lib.hid hstep
        clear hstep d
        generalize hM : minK l k = M at *
        have HM := Lib.hid hM
        clear hM
        go_wp2_with fail
        have x1 : 0 ≤ (k : Int) + 1 := by omega
        have x2 : (k : Int) + 1 < l.length := by omega
        have x3 : ((k : Int) + 1).toNat = k + 1 := by omega
        go_quiet_grown (first | (go_at_call 28; exact Calls.grown_of (order_any T M _)))
        clear x1 x2 x3
        go_wp2
        go_roundw
        case rel => exact ⟨k + 1, by omega, by go_num, by rw [HS.out]; exact blk_grow K1.out nq osq, blk_grow K0.out nq osq, below_grown hb nq osq⟩
        case measure => simp [intOf]; omega
    · have hfin : l.length - 1 = k := by omega
      have HF := Lib.hid hfin
      have m0 := blk_cell K1.out 0
      have m1 := blk_cell K1.out 1
      simp at m0 m1
      have f0 := blk_frozen K0.out 0
      have f1 := blk_frozen K0.out 1
      have z0 := blk_cell K0.out 0
      have z1 := blk_cell K0.out 1
      simp at z0 z1
      have KN : Hid (((wr.setCell ⟨w.heap.size, 0, none⟩ (.int .i64 (minK l k).f0)).setCell ⟨w.heap.size, 1, none⟩ (.int .i64 (minK l k).f1)).heap[w.heap.size]? = some (.cells #[.int .i64 (minK l k).f0, .int .i64 (minK l k).f1] 33 (0, 0))) := blk_put (blk_put K0.out 0 (.int .i64 (minK l k).f0) rfl) 1 (.int .i64 (minK l k).f1) rfl
      have HB' := Lib.hid ((hb.setCell (p := ⟨w.heap.size, 0, none⟩) (by simp) (.int .i64 (minK l k).f0)).setCell (p := ⟨w.heap.size, 1, none⟩) (by simp) (.int .i64 (minK l k).f1))
      clear hfin
      go_wp2
      rw [HF.out]
      refine bodyPost_ret (results_single rfl (Vals.cell w.heap.size 33 #[.int .i64 (minK l k).f0, .int .i64 (minK l k).f1] (0, 0) _ rfl KN.out Try.underlying33 rfl (by kernel_rfl) .nil)) rfl ⟨rfl, HB'.out⟩

def minAt (l : List S33) : Int := (minK l (l.length - 1)).f1
def wheel_Next.f (a0_0 : Int) (l0_1 : List S33) : Option (Int × Bool) := if l0_1.length ≤ 1000000 then some (if okW a0_0 l0_1 = true ∧ 0 < l0_1.length then (minAt l0_1, true) else (0, false)) else none
set_option maxRecDepth 100000 in
theorem wheel_Next.calls (a0_0 : Int) (A0_1 : Option Addr) (c0_1 : Nat) (l0_1 : List (S33)) (r1 : Int) (r2 : Bool) (w : World) (hr0_1 : Kd.C k33 w A0_1 l0_1.length l0_1) (hc0_1 : l0_1.length ≤ c0_1) (h : wheel_Next.f a0_0 l0_1 = some (r1, r2)) :
    Calls Try.prog 9 #[.agg #[.int .i64 a0_0, .slice A0_1 l0_1.length c0_1]] w fun e w' => e = .returned (.tuple #[.int .i64 r1, .bool r2]) ∧ RowKit.Below w.heap.size w w' := by
  unfold wheel_Next.f at h
  by_cases hn : l0_1.length ≤ 1000000
  · rw [if_pos hn] at h
    have hb0 : RowKit.Below w.heap.size w (w.alloc (.cells #[.int .i64 a0_0, .slice A0_1 l0_1.length c0_1] 24)) := (Below.refl _ _).alloc (Nat.le_refl _) _
    have hr1 := Kd.C_below hr0_1 hb0
    have hck := fun W (hW : Kd.C k33 W A0_1 l0_1.length l0_1) => Check_any a0_0 A0_1 c0_1 l0_1 W hW hc0_1 (by omega)
    have hm := fun W (hW : Kd.C k33 W A0_1 l0_1.length l0_1) (h0 : 0 < l0_1.length) => minfunc A0_1 c0_1 l0_1 W hW hn h0
    have HM := Lib.hid hm
    clear hm
    cases hK : okW a0_0 l0_1 with
    | false =>
      rw [hK] at h hck
      obtain ⟨rfl, rfl⟩ : 0 = r1 ∧ false = r2 := by simpa using h
      have HC := Lib.hid hck
      clear h hck
      go_enter Try.func9, Try.ntmps9
      go_wp2_with fail
      refine (HC.out _ hr1).mono ?_
      rintro e w2 ⟨rfl, hb2⟩
      go_wp2
      go_ret2
      exact ⟨rfl, hb0.trans (hb2.mono (by simp))⟩
    | true =>
      rw [hK] at h hck
      have HC := Lib.hid hck
      clear hck
      by_cases h0 : 0 < l0_1.length
      · obtain ⟨rfl, rfl⟩ : minAt l0_1 = r1 ∧ true = r2 := by simpa [h0] using h
        clear h
        have hfin : minAt l0_1 = (minK l0_1 (l0_1.length - 1)).f1 := rfl
        have HM' := Lib.hid (fun W hW => HM.out W hW h0)
        generalize minK l0_1 (l0_1.length - 1) = T at *
        have HF := Lib.hid hfin
        clear hfin HM
        have hl0 : ((l0_1.length : Int) == 0) = false := by simp; intro e; simp [e] at h0
        have hfld : ∀ (x y : Value) (W : World), (Instr.field 33 (.agg #[x, y]) 1).run Try.prog W = .ok y W := fun _ _ _ => by kernel_rfl
        go_enter Try.func9, Try.ntmps9
        go_wp2_with fail
        refine (HC.out _ hr1).mono ?_
        rintro e w2 ⟨rfl, hb2⟩
        have g0 : w2.cell? ⟨w.heap.size, 1, none⟩ = some (.slice A0_1 l0_1.length c0_1) := by rw [hb2.cell (by simp)]; simp
        have hr2 := Kd.C_below hr1 hb2
        go_wp2_with fail
        refine (HM'.out _ hr2).mono ?_
        rintro e w3 ⟨rfl, hb3⟩
        go_wp2
        go_ret2
        exact ⟨by rw [HF.out]; rfl, (hb0.trans (hb2.mono (by simp))).trans (hb3.mono (by have := hb2.size; simp at this; omega))⟩
      · obtain ⟨rfl, rfl⟩ : 0 = r1 ∧ false = r2 := by simpa [h0] using h
        obtain rfl : l0_1 = [] := List.eq_nil_of_length_eq_zero (by omega)
        clear h h0 hn HM
        simp only [List.length_nil] at *
        go_enter Try.func9, Try.ntmps9
        go_wp2_with fail
        refine (HC.out _ hr1).mono ?_
        rintro e w2 ⟨rfl, hb2⟩
        have g0 : w2.cell? ⟨w.heap.size, 1, none⟩ = some (.slice A0_1 0 c0_1) := by rw [hb2.cell (by simp)]; simp
        go_wp2
        go_ret2
        exact ⟨rfl, hb0.trans (hb2.mono (by simp))⟩
  · rw [if_neg hn] at h
    cases h
end Go.Proofs.Ytolaaplnoahnkaa.C
