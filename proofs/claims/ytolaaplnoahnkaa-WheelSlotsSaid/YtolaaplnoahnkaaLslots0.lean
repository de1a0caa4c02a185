import Derived.Test.YtolaaplnoahnkaaLslots
namespace Go.Proofs.Ytolaaplnoahnkaa.C
open Go.RowKit Go.Proofs.YtolaaplnoahnkaaW.PrintWords Go.Proofs.YtolaaplnoahnkaaW.PrintLast Go.Proofs.YtolaaplnoahnkaaW.PrintMore
set_option linter.unusedVariables false
set_option linter.unusedSimpArgs false

set_option maxRecDepth 100000 in
set_option maxHeartbeats 4000000 in
theorem slots_not (w : World) (now : Int) (A : Option Addr) (c : Nat) (l : List S33) (hr : Kd.C k33 w A l.length l) (hc : l.length ≤ c) (hok : okW now l = false) :
    Calls Try.prog 7 #[.agg #[.int .i64 now, .slice A l.length c]] w fun e w' => e = .returned (.bool true) ∧ Below w.heap.size w w' := by
  obtain ⟨W1, hW1⟩ : ∃ W1, w.alloc (.cells #[.int .i64 now, .slice A l.length c] 24) = W1 := ⟨_, rfl⟩
  have hb0 : Below w.heap.size w W1 := by subst hW1; exact (Below.refl _ _).alloc (Nat.le_refl _) _
  have hs1 : W1.heap.size = w.heap.size + 1 := by subst hW1; simp
  have HD := Lib.hid (show (∀ W, Below W1.heap.size W1 W → W.cell? ⟨w.heap.size, 0, none⟩ = some (.int .i64 now) ∧ W.cell? ⟨w.heap.size, 1, none⟩ = some (.slice A l.length c)) from fun W hb => by
    have k : W1.heap[w.heap.size]? = some (.cells #[.int .i64 now, .slice A l.length c] 24 (0, 0)) := by subst hW1; exact blk_new _ _
    have k2 := blk_below k hb
    exact ⟨(blk_cell k2 0).trans rfl, (blk_cell k2 1).trans rfl⟩)
  have HR := Lib.hid (show (∀ W, Below W1.heap.size W1 W → Kd.C k33 W A l.length l) from fun W hb => Kd.C_below hr (hb0.trans (hb.mono (by omega))))
  have HW := Lib.hid (fun W => mainsheetlaw15_wakes.calls 3 true W (wakes_k 3 (Nat.le_refl _)))
  have HOK := Lib.hid hok
  clear hr hok
  go_enter Try.func7, Try.ntmps7
  go_wp2_with fail
  clear hW1
  refine (HW.out _).mono ?_
  rintro e w2 ⟨rfl, hb2⟩
  obtain ⟨d0, d1⟩ := HD.out w2 hb2
  by_cases h100 : (l.length : Int) > 100
  · have hg : decide ((l.length : Int) > 100) = true := decide_eq_true h100
    go_wp2_with fail
    go_ret
    exact ⟨rfl, hb0.trans (hb2.mono (by omega))⟩
  · have hg : decide ((l.length : Int) > 100) = false := decide_eq_false h100
    have HC := Lib.hid (fun W hb => Check_any now A c l W (HR.out W hb) hc (by omega))
    go_wp2_with fail
    refine (HC.out _ hb2).mono ?_
    rintro e w3 ⟨rfl, hb3⟩
    rw [HOK.out]
    have hb13 : Below W1.heap.size W1 w3 := hb2.trans (hb3.mono hb2.size)
    go_wp2
    go_ret
    exact ⟨rfl, hb0.trans (hb13.mono (by omega))⟩
theorem slots_any (w : World) (now : Int) (A : Option Addr) (c : Nat) (l : List S33) (hr : Kd.C k33 w A l.length l) (hc : l.length ≤ c) :
    Calls Try.prog 7 #[.agg #[.int .i64 now, .slice A l.length c]] w fun e w' => e = .returned (.bool true) ∧ Below w.heap.size w w' := by
  cases h : okW now l with
  | false => exact slots_not w now A c l hr hc h
  | true => exact slots_yes w now A c l hr hc h
end Go.Proofs.Ytolaaplnoahnkaa.C
