import Derived.Test.YtlddekjlmkimnaaHinsA
namespace Go.Proofs.Ytlddekjlmkimnaa.C
open Go.RowKit Go.Proofs.YtlddekjlmkimnaaW.PrintWords Go.Proofs.YtlddekjlmkimnaaW.PrintLast Go.Proofs.YtlddekjlmkimnaaW.PrintMore
set_option linter.unusedVariables false
set_option linter.unusedSimpArgs false

/-! ### Where a virtual CPU's alarm is: vtimer.at. -/
theorem atA {w : World} {A : Option Addr} {n : Nat} {xs : List S47} (h : Kd.C k47 w A n xs) (i : Nat) (hi : i < n) : ∃ ad, A = some ad ∧ w.cell? (ad.add (i * 3)) = some (.int .i64 (xs.getD i z47).f0) ∧
    w.cell? ⟨(ad.add (i * 3)).block, (ad.add (i * 3)).off + 1, none⟩ = some (.int .i64 (xs.getD i z47).f1) ∧ w.cell? ⟨(ad.add (i * 3)).block, (ad.add (i * 3)).off + 2, none⟩ = some (.int .i64 (xs.getD i z47).f2) := at_T47 h (i : Int) (by omega) (by omega)
/-- The difference, as int counts it. -/
def dif (a b : Int) : Int := wrap64 (a - b)
theorem at1 (x y z n : Int) (w : World) : Calls Try.prog 58 #[.agg #[.int .i64 x, .int .i64 y, .int .i64 z], .int .i64 n] w fun e w' => e = .returned (.int .i64 (dif x n)) ∧ Below w.heap.size w w' := by
  go_enter Try.func58, Try.ntmps58
  go_wp2
  go_ret
  exact ⟨rfl, (Below.refl _ _).alloc (Nat.le_refl _) _⟩

def bsGoA (l : List S47) (x : Int) (i j : Nat) : Nat :=
  if h : i < j then (if dif (l.getD ((i + j) / 2) z47).f0 x < 0 then bsGoA l x ((i + j) / 2 + 1) j else bsGoA l x i ((i + j) / 2)) else i
termination_by j - i
def bsA (l : List S47) (x : Int) : Nat := bsGoA l x 0 l.length
theorem bsGoA_at (l : List S47) (x : Int) (i j : Nat) (h : i < j) : bsGoA l x i j = if dif (l.getD ((i + j) / 2) z47).f0 x < 0 then bsGoA l x ((i + j) / 2 + 1) j else bsGoA l x i ((i + j) / 2) := by
  rw [bsGoA, dif_pos h]
theorem bsGoA_end (l : List S47) (x : Int) (i j : Nat) (h : ¬ i < j) : bsGoA l x i j = i := by
  rw [bsGoA, dif_neg h]

set_option maxRecDepth 100000 in
set_option maxHeartbeats 400000 in
theorem bsearchA (A : Option Addr) (c : Nat) (l : List S47) (x : Int) (w : World) (hr : Kd.C k47 w A l.length l) (hn : l.length ≤ 1000000) :
    Calls Try.prog 57 #[.slice A l.length c, .int .i64 x, .func (.func 58) #[] #[]] w fun e w' =>
      e = .returned (.tuple #[.int .i64 (bsA l x), .bool (decide (bsA l x < l.length) && decide (dif (l.getD (bsA l x) z47).f0 x = 0))]) ∧ Below w.heap.size w w' := by
  go_enter Try.func57, Try.ntmps57
  go_wp2_with fail
  go_loopw [9, 10] (fun a b wr => ∃ i j : Nat, i ≤ j ∧ j ≤ l.length ∧ a = .int .i64 i ∧ b = .int .i64 j ∧ Hid (bsA l x = bsGoA l x i j) ∧ Below w.heap.size w wr) (fun a b _ => (intOf b - intOf a).toNat)
  case atStart => exact ⟨0, l.length, by omega, by omega, rfl, rfl, rfl, Below.refl _ _⟩
  case round =>
    obtain ⟨i, j, hij, hj, rfl, rfl, HB, hb⟩ := hrel
    by_cases hlt : i < j
    · obtain ⟨ad, rfl, c0, c1, c2⟩ := atA (Kd.C_below hr hb) ((i + j) / 2) (by omega)
      have hstep := bsGoA_at l x i j hlt
      generalize l.getD ((i + j) / 2) z47 = T at *
      by_cases d : dif T.f0 x < 0
      · rw [if_pos d] at hstep
        have HS := Lib.hid hstep
        have e1 : decide (dif T.f0 x < 0) = true := decide_eq_true d
        clear hstep d
        go_wp2_with fail
        refine (at1 _ _ _ _ _).mono ?_
        rintro e w2 ⟨rfl, hb2⟩
        go_wp2
        go_roundw
        case rel => exact ⟨(i + j) / 2 + 1, j, by omega, hj, by go_num, rfl, HB.out.trans HS.out, hb.trans (hb2.mono hb.size)⟩
        case measure => simp [intOf]; omega
      · rw [if_neg d] at hstep
        have HS := Lib.hid hstep
        have e1 : decide (dif T.f0 x < 0) = false := decide_eq_false d
        clear hstep d
        go_wp2_with fail
        refine (at1 _ _ _ _ _).mono ?_
        rintro e w2 ⟨rfl, hb2⟩
        go_wp2
        go_roundw
        case rel => exact ⟨i, (i + j) / 2, by omega, by omega, rfl, by go_num, HB.out.trans HS.out, hb.trans (hb2.mono hb.size)⟩
        case measure => simp [intOf]; omega
    · have hend : bsA l x = i := HB.out.trans (bsGoA_end l x i j hlt)
      by_cases d : i < l.length
      · obtain ⟨ad, rfl, c0, c1, c2⟩ := atA (Kd.C_below hr hb) i d
        have hfin : (decide (bsA l x < l.length) && decide (dif (l.getD (bsA l x) z47).f0 x = 0)) = decide (dif (l.getD i z47).f0 x = 0) := by rw [hend, decide_eq_true d]; rfl
        generalize l.getD i z47 = T at *
        have HE := Lib.hid hend
        have HF := Lib.hid hfin
        have e1 : (dif T.f0 x == 0) = decide (dif T.f0 x = 0) := rfl
        clear hend hfin
        go_wp2_with fail
        refine (at1 _ _ _ _ _).mono ?_
        rintro e w2 ⟨rfl, hb2⟩
        go_wp2
        go_ret2
        exact ⟨by rw [HF.out, HE.out]; rfl, hb.trans (hb2.mono hb.size)⟩
      · have hfin : (decide (bsA l x < l.length) && decide (dif (l.getD (bsA l x) z47).f0 x = 0)) = false := by rw [hend, decide_eq_false d]; rfl
        have HE := Lib.hid hend
        have HF := Lib.hid hfin
        have e1 : decide ((i : Int) < l.length) = false := decide_eq_false (by omega)
        clear hend hfin
        go_wp2_with fail
        go_ret2
        exact ⟨by rw [HF.out, HE.out]; rfl, hb⟩

def vtimer_at.f (l0 : List (S47)) (a1 : Int) : Option (Int × Bool) := if l0.length ≤ 1000000 then some ((bsA l0 a1 : Int), decide (bsA l0 a1 < l0.length) && decide (dif (l0.getD (bsA l0 a1) z47).f0 a1 = 0)) else none
set_option maxRecDepth 100000 in
theorem vtimer_at.calls (A0 : Option Addr) (c0 : Nat) (l0 : List (S47)) (a1 : Int) (r1 : Int) (r2 : Bool) (w : World) (hr0 : Kd.C k47 w A0 l0.length l0) (hc0 : l0.length ≤ c0) (h : vtimer_at.f l0 a1 = some (r1, r2)) :
    Calls Try.prog 29 #[.slice A0 l0.length c0, .int .i64 a1] w fun e w' => e = .returned (.tuple #[.int .i64 r1, .bool r2]) ∧ Below w.heap.size w w' := by
  unfold vtimer_at.f at h
  split at h
  rotate_left
  · cases h
  rename_i hn
  have hbs := bsearchA A0 c0 l0 a1 w hr0 hn
  simp only [Option.some.injEq, Prod.mk.injEq] at h
  obtain ⟨e1, e2⟩ := h
  rw [e1, e2] at hbs
  have HS := Lib.hid hbs
  clear hbs e1 e2
  go_enter Try.func29, Try.ntmps29
  go_wp2_with fail
  refine (HS.out).mono ?_
  rintro e w2 ⟨rfl, hb2⟩
  go_wp2
  go_ret2
  exact ⟨rfl, hb2⟩
end Go.Proofs.Ytlddekjlmkimnaa.C
