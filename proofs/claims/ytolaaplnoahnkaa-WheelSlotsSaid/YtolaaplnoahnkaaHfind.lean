import Derived.Test.YtolaaplnoahnkaaHpure
import Derived.Laws.EntriesVeiled
namespace Go.Proofs.Ytolaaplnoahnkaa.C
open Go.RowKit Go.Proofs.YtolaaplnoahnkaaW.PrintWords Go.Proofs.YtolaaplnoahnkaaW.PrintLast Go.Proofs.YtolaaplnoahnkaaW.PrintMore
set_option linter.unusedVariables false
set_option linter.unusedSimpArgs false

/-! The comparisons of package cmp. -/
def cmp3 (a b : Int) : Int := if a < b then -1 else if b < a then 1 else 0
theorem isNaN50 (n : Int) (w : World) : Calls Try.prog 50 #[.int .i64 n] w fun e w' => e = .returned (.bool false) ∧ w = w' := by
  go_enter Try.func50, Try.ntmps50
  go_wp2
  go_ret
  exact ⟨by simp, rfl⟩
theorem isNaN49 (n : Int) (w : World) : Calls Try.prog 49 #[.int .i64 n] w fun e w' => e = .returned (.bool false) ∧ w = w' := by
  go_enter Try.func49, Try.ntmps49
  go_wp2
  go_ret
  exact ⟨by simp, rfl⟩
theorem cmp42 (a b : Int) (w : World) : Calls Try.prog 42 #[.int .i64 a, .int .i64 b] w fun e w' => e = .returned (.int .i64 (cmp3 a b)) ∧ w = w' := by
  by_cases h1 : a < b
  · have hf : cmp3 a b = -1 := by simp [cmp3, h1]
    have HF := Lib.hid hf
    clear hf
    go_enter Try.func42, Try.ntmps42
    go_wp2_with (first | (go_at_call 50; refine (isNaN50 _ _).mono ?_; rintro e w' ⟨rfl, rfl⟩))
    go_ret
    exact ⟨by rw [HF.out]; rfl, rfl⟩
  · by_cases h2 : b < a
    · have hf : cmp3 a b = 1 := by simp only [cmp3]; rw [if_neg h1, if_pos h2]
      have HF := Lib.hid hf
      clear hf
      go_enter Try.func42, Try.ntmps42
      go_wp2_with (first | (go_at_call 50; refine (isNaN50 _ _).mono ?_; rintro e w' ⟨rfl, rfl⟩))
      go_ret
      exact ⟨by rw [HF.out]; rfl, rfl⟩
    · have hf : cmp3 a b = 0 := by simp only [cmp3]; rw [if_neg h1, if_neg h2]
      have HF := Lib.hid hf
      clear hf
      go_enter Try.func42, Try.ntmps42
      go_wp2_with (first | (go_at_call 50; refine (isNaN50 _ _).mono ?_; rintro e w' ⟨rfl, rfl⟩))
      go_ret
      exact ⟨by rw [HF.out]; rfl, rfl⟩
theorem cmp41 (a b : Int) (w : World) : Calls Try.prog 41 #[.int .i64 a, .int .i64 b] w fun e w' => e = .returned (.int .i64 (cmp3 a b)) ∧ w = w' := by
  by_cases h1 : a < b
  · have hf : cmp3 a b = -1 := by simp [cmp3, h1]
    have HF := Lib.hid hf
    clear hf
    go_enter Try.func41, Try.ntmps41
    go_wp2_with (first | (go_at_call 49; refine (isNaN49 _ _).mono ?_; rintro e w' ⟨rfl, rfl⟩))
    go_ret
    exact ⟨by rw [HF.out]; rfl, rfl⟩
  · by_cases h2 : b < a
    · have hf : cmp3 a b = 1 := by simp only [cmp3]; rw [if_neg h1, if_pos h2]
      have HF := Lib.hid hf
      clear hf
      go_enter Try.func41, Try.ntmps41
      go_wp2_with (first | (go_at_call 49; refine (isNaN49 _ _).mono ?_; rintro e w' ⟨rfl, rfl⟩))
      go_ret
      exact ⟨by rw [HF.out]; rfl, rfl⟩
    · have hf : cmp3 a b = 0 := by simp only [cmp3]; rw [if_neg h1, if_neg h2]
      have HF := Lib.hid hf
      clear hf
      go_enter Try.func41, Try.ntmps41
      go_wp2_with (first | (go_at_call 49; refine (isNaN49 _ _).mono ?_; rintro e w' ⟨rfl, rfl⟩))
      go_ret
      exact ⟨by rw [HF.out]; rfl, rfl⟩

theorem atN {w : World} {A : Option Addr} {n : Nat} {xs : List S33} (h : Kd.C k33 w A n xs) (i : Nat) (hi : i < n) : ∃ ad, A = some ad ∧ w.cell? (ad.add (i * 2)) = some (.int .i64 (xs.getD i z33).f0) ∧
    w.cell? ⟨(ad.add (i * 2)).block, (ad.add (i * 2)).off + 1, none⟩ = some (.int .i64 (xs.getD i z33).f1) := at_T33 h (i : Int) (by omega) (by omega)

/-! wheel.find and what it calls. -/
theorem find1 (id at' : Int) (w : World) : Calls Try.prog 45 #[.agg #[.int .i64 id, .int .i64 at']] w fun e w' => e = .returned (.int .i64 id) ∧ Below w.heap.size w w' := by
  go_enter Try.func45, Try.ntmps45
  go_wp2
  go_ret
  exact ⟨rfl, (Below.refl _ _).alloc (Nat.le_refl _) _⟩
theorem row1 (id at' n : Int) (p : Nat) (w : World) (hp : p < w.heap.size) (hc : w.cell? ⟨p, 0, none⟩ = some (.func (.func 45) #[] #[])) :
    Calls Try.prog 54 #[.agg #[.int .i64 id, .int .i64 at'], .int .i64 n, .pointer (some ⟨p, 0, none⟩)] w fun e w' => e = .returned (.int .i64 (cmp3 id n)) ∧ Below w.heap.size w w' := by
  go_enter Try.func54, Try.ntmps54
  go_wp2_with (first | (go_at_call 45; refine (find1 _ _ _).mono ?_; rintro e w1 ⟨rfl, hb1⟩) | (go_at_call 42; refine (cmp42 _ _ _).mono ?_; rintro e w2 ⟨rfl, rfl⟩))
  go_ret
  exact ⟨rfl, ((Below.refl _ _).alloc (Nat.le_refl _) _).trans (hb1.mono (by simp))⟩
def bsGo (l : List S33) (x : Int) (i j : Nat) : Nat :=
  if h : i < j then (if (l.getD ((i + j) / 2) z33).f0 < x then bsGo l x ((i + j) / 2 + 1) j else bsGo l x i ((i + j) / 2)) else i
termination_by j - i
def bs (l : List S33) (x : Int) : Nat := bsGo l x 0 l.length

theorem bsGo_at (l : List S33) (x : Int) (i j : Nat) (h : i < j) : bsGo l x i j = if (l.getD ((i + j) / 2) z33).f0 < x then bsGo l x ((i + j) / 2 + 1) j else bsGo l x i ((i + j) / 2) := by
  rw [bsGo, dif_pos h]
theorem bsGo_end (l : List S33) (x : Int) (i j : Nat) (h : ¬ i < j) : bsGo l x i j = i := by
  rw [bsGo, dif_neg h]
theorem cmp3_lt (a b : Int) : decide (cmp3 a b < 0) = decide (a < b) := by unfold cmp3; split <;> (try split) <;> simp <;> omega
theorem cmp3_eq (a b : Int) : (cmp3 a b == 0) = decide (a = b) := by unfold cmp3; split <;> (try split) <;> simp <;> omega

set_option maxRecDepth 100000 in
set_option maxHeartbeats 400000 in
theorem bsearch (A : Option Addr) (c : Nat) (l : List S33) (x : Int) (p : Nat) (w : World) (hr : Kd.C k33 w A l.length l) (hn : l.length ≤ 1000000) (hp : p < w.heap.size) (hc : w.cell? ⟨p, 0, none⟩ = some (.func (.func 45) #[] #[])) :
    Calls Try.prog 53 #[.slice A l.length c, .int .i64 x, .func (.func 54) #[] #[.pointer (some ⟨p, 0, none⟩)]] w fun e w' =>
      e = .returned (.tuple #[.int .i64 (bs l x), .bool (decide (bs l x < l.length) && decide ((l.getD (bs l x) z33).f0 = x))]) ∧ Below w.heap.size w w' := by
  go_enter Try.func53, Try.ntmps53
  go_wp2_with fail
  go_loopw [9, 10] (fun a b wr => ∃ i j : Nat, i ≤ j ∧ j ≤ l.length ∧ a = .int .i64 i ∧ b = .int .i64 j ∧ Hid (bs l x = bsGo l x i j) ∧ Below w.heap.size w wr) (fun a b _ => (intOf b - intOf a).toNat)
  case atStart => exact ⟨0, l.length, by omega, by omega, rfl, rfl, rfl, Below.refl _ _⟩
  case round =>
    obtain ⟨i, j, hij, hj, rfl, rfl, HB, hb⟩ := hrel
    have hcr : wr.cell? ⟨p, 0, none⟩ = some (.func (.func 45) #[] #[]) := (hb.cell (p := ⟨p, 0, none⟩) hp).trans hc
    have hpr : p < wr.heap.size := Nat.lt_of_lt_of_le hp hb.size
    by_cases hlt : i < j
    · obtain ⟨ad, rfl, c0, c1⟩ := atN (Kd.C_below hr hb) ((i + j) / 2) (by omega)
      have hstep := bsGo_at l x i j hlt
      generalize l.getD ((i + j) / 2) z33 = T at *
      by_cases d : T.f0 < x
      · rw [if_pos d] at hstep
        have HS := Lib.hid hstep
        have e1 : decide (cmp3 T.f0 x < 0) = true := by rw [cmp3_lt]; exact decide_eq_true d
        clear hstep d
        go_wp2_with fail
        refine (row1 _ _ _ _ _ hpr hcr).mono ?_
        rintro e w2 ⟨rfl, hb2⟩
        go_wp2
        go_roundw
        case rel => exact ⟨(i + j) / 2 + 1, j, by omega, hj, by go_num, rfl, HB.out.trans HS.out, hb.trans (hb2.mono hb.size)⟩
        case measure => simp [intOf]; omega
      · rw [if_neg d] at hstep
        have HS := Lib.hid hstep
        have e1 : decide (cmp3 T.f0 x < 0) = false := by rw [cmp3_lt]; exact decide_eq_false d
        clear hstep d
        go_wp2_with fail
        refine (row1 _ _ _ _ _ hpr hcr).mono ?_
        rintro e w2 ⟨rfl, hb2⟩
        go_wp2
        go_roundw
        case rel => exact ⟨i, (i + j) / 2, by omega, by omega, rfl, by go_num, HB.out.trans HS.out, hb.trans (hb2.mono hb.size)⟩
        case measure => simp [intOf]; omega
    · have hend : bs l x = i := HB.out.trans (bsGo_end l x i j hlt)
      by_cases d : i < l.length
      · obtain ⟨ad, rfl, c0, c1⟩ := atN (Kd.C_below hr hb) i d
        have hfin : (decide (bs l x < l.length) && decide ((l.getD (bs l x) z33).f0 = x)) = decide ((l.getD i z33).f0 = x) := by rw [hend, decide_eq_true d]; rfl
        generalize l.getD i z33 = T at *
        have HE := Lib.hid hend
        have HF := Lib.hid hfin
        have e1 := cmp3_eq T.f0 x
        clear hend hfin
        go_wp2_with fail
        refine (row1 _ _ _ _ _ hpr hcr).mono ?_
        rintro e w2 ⟨rfl, hb2⟩
        go_wp2
        go_ret2
        exact ⟨by rw [HF.out, HE.out]; rfl, hb.trans (hb2.mono hb.size)⟩
      · have hfin : (decide (bs l x < l.length) && decide ((l.getD (bs l x) z33).f0 = x)) = false := by rw [hend, decide_eq_false d]; rfl
        have HE := Lib.hid hend
        have HF := Lib.hid hfin
        have e1 : decide ((i : Int) < l.length) = false := decide_eq_false (by omega)
        clear hend hfin
        go_wp2_with fail
        go_ret2
        exact ⟨by rw [HF.out, HE.out]; rfl, hb⟩

set_option maxRecDepth 100000 in
theorem row_any (A : Option Addr) (c : Nat) (l : List S33) (x : Int) (w : World) (hr : Kd.C k33 w A l.length l) (hn : l.length ≤ 1000000) :
    Calls Try.prog 44 #[.slice A l.length c, .int .i64 x, .func (.func 45) #[] #[]] w fun e w' =>
      e = .returned (.tuple #[.int .i64 (bs l x), .bool (decide (bs l x < l.length) && decide ((l.getD (bs l x) z33).f0 = x))]) ∧ Below w.heap.size w w' := by
  have hb0 : Below w.heap.size w (w.alloc (.cells #[.func (.func 45) #[] #[]] 76)) := (Below.refl _ _).alloc (Nat.le_refl _) _
  have hr1 := Kd.C_below hr hb0
  go_enter Try.func44, Try.ntmps44
  go_wp2_with fail
  refine (bsearch _ _ _ _ w.heap.size _ hr1 hn (by simp) (by simp)).mono ?_
  rintro e w2 ⟨rfl, hb2⟩
  go_wp2
  go_ret2
  exact ⟨rfl, hb0.trans (hb2.mono (by simp))⟩

/-- Where a timer is, if it is there; of a wheel that may be. -/
def wheel_find.f (a0_0 : Int) (l0_1 : List S33) (a1 : Int) : Option (Int × Bool) :=
  if l0_1.length ≤ 1000000 then some ((bs l0_1 a1 : Int), (decide (bs l0_1 a1 < l0_1.length) && decide ((l0_1.getD (bs l0_1 a1) z33).f0 = a1)) && okW a0_0 l0_1) else none
set_option maxRecDepth 100000 in
theorem wheel_find.calls (a0_0 : Int) (A0_1 : Option Addr) (c0_1 : Nat) (l0_1 : List (S33)) (a1 : Int) (r1 : Int) (r2 : Bool) (w : World) (hr0_1 : Kd.C k33 w A0_1 l0_1.length l0_1) (hc0_1 : l0_1.length ≤ c0_1) (h : wheel_find.f a0_0 l0_1 a1 = some (r1, r2)) :
    Calls Try.prog 32 #[.agg #[.int .i64 a0_0, .slice A0_1 l0_1.length c0_1], .int .i64 a1] w fun e w' => e = .returned (.tuple #[.int .i64 r1, .bool r2]) ∧ Below w.heap.size w w' := by
  unfold wheel_find.f at h
  by_cases hn : l0_1.length ≤ 1000000
  · rw [if_pos hn] at h
    obtain ⟨rfl, rfl⟩ : (bs l0_1 a1 : Int) = r1 ∧ ((decide (bs l0_1 a1 < l0_1.length) && decide ((l0_1.getD (bs l0_1 a1) z33).f0 = a1)) && okW a0_0 l0_1) = r2 := by simpa using h
    clear h
    have hb0 : Below w.heap.size w (w.alloc (.cells #[.int .i64 a0_0, .slice A0_1 l0_1.length c0_1] 24)) := (Below.refl _ _).alloc (Nat.le_refl _) _
    have hr1 := Kd.C_below hr0_1 hb0
    cases hB : (decide (bs l0_1 a1 < l0_1.length) && decide ((l0_1.getD (bs l0_1 a1) z33).f0 = a1)) with
    | false =>
      have HB := Lib.hid hB
      clear hB
      go_enter Try.func32, Try.ntmps32
      go_wp2_with fail
      refine (row_any _ _ _ _ _ hr1 hn).mono ?_
      rintro e w2 ⟨rfl, hb2⟩
      rw [HB.out]
      go_wp2
      go_ret2
      exact ⟨by simp, hb0.trans (hb2.mono (by simp))⟩
    | true =>
      have HB := Lib.hid hB
      clear hB
      go_enter Try.func32, Try.ntmps32
      go_wp2_with fail
      refine (row_any _ _ _ _ _ hr1 hn).mono ?_
      rintro e w2 ⟨rfl, hb2⟩
      rw [HB.out]
      have g0 : w2.cell? ⟨w.heap.size, 0, none⟩ = some (.int .i64 a0_0) := by rw [hb2.cell (by simp)]; simp
      have g1 : w2.cell? ⟨w.heap.size, 1, none⟩ = some (.slice A0_1 l0_1.length c0_1) := by rw [hb2.cell (by simp)]; simp
      have hr2 := Kd.C_below hr1 hb2
      go_wp2_with fail
      refine (Check_any _ _ _ _ _ hr2 hc0_1 (by omega)).mono ?_
      rintro e w3 ⟨rfl, hb3⟩
      cases hK : okW a0_0 l0_1 with
      | true =>
        go_wp2
        go_ret2
        exact ⟨by simp [hK], (hb0.trans (hb2.mono (by simp))).trans (hb3.mono (by have := hb2.size; simp at this; omega))⟩
      | false =>
        go_wp2
        go_ret2
        exact ⟨by simp [hK], (hb0.trans (hb2.mono (by simp))).trans (hb3.mono (by have := hb2.size; simp at this; omega))⟩
  · rw [if_neg hn] at h
    cases h
end Go.Proofs.Ytolaaplnoahnkaa.C
