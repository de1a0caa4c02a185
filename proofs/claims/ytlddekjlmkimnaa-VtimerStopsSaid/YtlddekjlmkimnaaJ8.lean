import Derived.Test.YtlddekjlmkimnaaJ6
import Derived.Test.YtlddekjlmkimnaaCchk
import Derived.Laws.EntriesVeiled
import Derived.StillTailTactics
import Derived.Sort.Grow
section
namespace Go.Proofs.Ytlddekjlmkimnaa.C
open Go.RowKit Go.Proofs.YtlddekjlmkimnaaW.PrintWords Go.Proofs.YtlddekjlmkimnaaW.PrintLast Go.Proofs.YtlddekjlmkimnaaW.PrintMore
set_option linter.unusedVariables false
set_option linter.unusedSimpArgs false

def okT (now : Int) (t : S88) : Bool := decide (0 ≤ t.f0) && (decide (t.f0 < 32) && (decide (now < t.f1) && decide (t.f1 ≤ 1125899906842624)))
def okL (now : Int) : Int → List S88 → Bool
  | _, [] => true
  | last, t :: r => okT now t && (decide (last < t.f0) && okL now t.f0 r)
/-- May a wheel be? -/
def okW (now : Int) (l : List S88) : Bool := decide (0 ≤ now) && (decide (now ≤ 1125899906842624) && okL now (-1) l)

def prevOf (l : List S88) (i : Nat) : Int := if i = 0 then -1 else (l.getD (i - 1) z88).f0

theorem wrap64_id {x : Int} (h0 : -9223372036854775808 ≤ x) (h1 : x ≤ 9223372036854775807) : wrap64 x = x := by unfold wrap64; omega

theorem may_f (n : Int) : wheel_may.f n = some (decide (0 ≤ n) && decide (n < 32)) := by
  unfold wheel_may.f
  by_cases h : 0 ≤ n <;> simp [h]

theorem check_l0 (now : Int) (l : List S88) (hn : l.length ≤ 9223372036854775806) (d : Nat) : ∀ (k i : Nat), i ≤ l.length → l.length - i = d → d < k →
    wheel_Check.l0 k l l.length i now l = some (if okL now (prevOf l i) (l.drop i) then 0 else 250) := by
  induction d with
  | zero =>
    intro k i h0 h1 hk
    obtain ⟨k, rfl⟩ : ∃ m, k = m + 1 := ⟨k - 1, by omega⟩
    obtain rfl : i = l.length := by omega
    simp [wheel_Check.l0, okL]
  | succ d ih =>
    intro k i h0 h1 hk
    obtain ⟨k, rfl⟩ : ∃ m, k = m + 1 := ⟨k - 1, by omega⟩
    have hlt : i < l.length := by omega
    have hd : l.drop i = l[i] :: l.drop (i + 1) := List.drop_eq_getElem_cons hlt
    have hr : rd_T88 l (i : Int) = l[i] := by simp [rd_T88, List.getD_eq_getElem?_getD, hlt]
    have hw : wrap64 ((i : Int) + 1) = ((i + 1 : Nat) : Int) := by rw [wrap64_id] <;> omega
    have ihh := ih k (i + 1) (by omega) (by omega) (by omega)
    have hp : prevOf l (i + 1) = l[i].f0 := by simp [prevOf, List.getD_eq_getElem?_getD, hlt]
    simp only [wheel_Check.l0]
    rw [if_pos (by omega), if_pos (by omega), if_pos (by omega), hr, may_f]
    simp only [Option.bind_some]
    rw [hd, okL]
    by_cases c1 : (decide (0 ≤ l[i].f0) && decide (l[i].f0 < 32)) = true
    · rw [if_pos c1]
      simp only [Bool.and_eq_true, decide_eq_true_eq] at c1
      by_cases c2 : l[i].f1 ≤ now
      · rw [if_pos c2, if_neg]; simp [okT]; intros; omega
      · rw [if_neg c2]
        by_cases c3 : l[i].f1 > 1125899906842624
        · rw [if_pos c3, if_neg]; simp [okT]; intros; omega
        · rw [if_neg c3]
          have hok : okT now l[i] = true := by simp [okT]; omega
          rw [hok, Bool.true_and, hw, ihh, hp]
          by_cases c4 : (i : Int) > 0
          · have hw2 : wrap64 ((i : Int) - 1) = ((i - 1 : Nat) : Int) := by rw [wrap64_id] <;> omega
            have hr2 : rd_T88 l ((i - 1 : Nat) : Int) = l.getD (i - 1) z88 := by simp [rd_T88]
            rw [if_pos c4, hw2, if_pos (by omega), if_pos (by omega), hr2]
            have hpi : prevOf l i = (l.getD (i - 1) z88).f0 := by unfold prevOf; rw [if_neg (by omega)]
            rw [hpi]
            by_cases c5 : (l.getD (i - 1) z88).f0 ≥ l[i].f0
            · have : decide ((l.getD (i - 1) z88).f0 < l[i].f0) = false := decide_eq_false (by omega)
              rw [if_pos c5, this]; simp
            · rw [if_neg c5]
              have : decide ((l.getD (i - 1) z88).f0 < l[i].f0) = true := decide_eq_true (by omega)
              rw [this, Bool.true_and]
          · rw [if_neg c4]
            obtain rfl : i = 0 := by omega
            have hp0 : prevOf l 0 = -1 := rfl
            have : decide (prevOf l 0 < l[0].f0) = true := decide_eq_true (by omega)
            rw [this, Bool.true_and]
    · rw [if_neg c1, if_neg]; simp only [Bool.and_eq_true, decide_eq_true_eq, okT] at c1 ⊢; intro h; exact c1 ⟨h.1.1, h.1.2.1⟩

theorem check_f (now : Int) (l : List S88) (hn : l.length ≤ 9223372036854775806) : wheel_Check.f (l.length + 2) now l = some (if okW now l then 0 else 250) := by
  unfold wheel_Check.f
  by_cases h : now < 0
  · rw [if_pos h]; simp only [wheel_Check.j0, if_true]; rw [if_neg]; simp [okW]; intros; omega
  · rw [if_neg h]
    simp only [wheel_Check.j0]
    by_cases h2 : now > 1125899906842624
    · rw [if_pos (by simpa using h2), if_neg]; simp [okW]; intros; omega
    · rw [if_neg (by simpa using h2)]
      have := check_l0 now l hn l.length (l.length + 1) 0 (by omega) (by omega) (by omega)
      simp only [List.drop_zero] at this
      rw [show ((0 : Nat) : Int) = 0 from rfl] at this
      rw [this]
      have : okW now l = okL now (-1) l := by unfold okW; rw [decide_eq_true (show 0 ≤ now by omega), decide_eq_true (show now ≤ 1125899906842624 by omega)]; simp
      rw [this]; rfl

/-- wheel.Check, in clean words. -/
theorem Check_any (now : Int) (A : Option Addr) (c : Nat) (l : List S88) (w : World) (hr : Kd.C k88 w A l.length l) (hc : l.length ≤ c) (hn : l.length ≤ 9223372036854775806) :
    Calls Try.prog 28 #[.agg #[.int .i64 now, .slice A l.length c]] w fun e w' => e = .returned (.int .i64 (if okW now l then 0 else 250)) ∧ Below w.heap.size w w' :=
  wheel_Check.calls _ now A c l _ w hr hc (check_f now l hn)
end Go.Proofs.Ytlddekjlmkimnaa.C
end
section
namespace Go.Proofs.Ytlddekjlmkimnaa.C
open Go.RowKit Go.Proofs.YtlddekjlmkimnaaW.PrintWords Go.Proofs.YtlddekjlmkimnaaW.PrintLast Go.Proofs.YtlddekjlmkimnaaW.PrintMore
set_option linter.unusedVariables false
set_option linter.unusedSimpArgs false

/-! The comparisons of package cmp. -/
def cmp3 (a b : Int) : Int := if a < b then -1 else if b < a then 1 else 0
theorem isNaN50 (n : Int) (w : World) : Calls Try.prog 91 #[.int .i64 n] w fun e w' => e = .returned (.bool false) ∧ w = w' := by
  go_enter Try.func91, Try.ntmps91
  go_wp2
  go_ret
  exact ⟨by simp, rfl⟩
theorem isNaN49 (n : Int) (w : World) : Calls Try.prog 90 #[.int .i64 n] w fun e w' => e = .returned (.bool false) ∧ w = w' := by
  go_enter Try.func90, Try.ntmps90
  go_wp2
  go_ret
  exact ⟨by simp, rfl⟩
theorem cmp42 (a b : Int) (w : World) : Calls Try.prog 81 #[.int .i64 a, .int .i64 b] w fun e w' => e = .returned (.int .i64 (cmp3 a b)) ∧ w = w' := by
  by_cases h1 : a < b
  · have hf : cmp3 a b = -1 := by simp [cmp3, h1]
    have HF := Lib.hid hf
    clear hf
    go_enter Try.func81, Try.ntmps81
    go_wp2_with (first | (go_at_call 91; refine (isNaN50 _ _).mono ?_; rintro e w' ⟨rfl, rfl⟩))
    go_ret
    exact ⟨by rw [HF.out]; rfl, rfl⟩
  · by_cases h2 : b < a
    · have hf : cmp3 a b = 1 := by simp only [cmp3]; rw [if_neg h1, if_pos h2]
      have HF := Lib.hid hf
      clear hf
      go_enter Try.func81, Try.ntmps81
      go_wp2_with (first | (go_at_call 91; refine (isNaN50 _ _).mono ?_; rintro e w' ⟨rfl, rfl⟩))
      go_ret
      exact ⟨by rw [HF.out]; rfl, rfl⟩
    · have hf : cmp3 a b = 0 := by simp only [cmp3]; rw [if_neg h1, if_neg h2]
      have HF := Lib.hid hf
      clear hf
      go_enter Try.func81, Try.ntmps81
      go_wp2_with (first | (go_at_call 91; refine (isNaN50 _ _).mono ?_; rintro e w' ⟨rfl, rfl⟩))
      go_ret
      exact ⟨by rw [HF.out]; rfl, rfl⟩
theorem cmp41 (a b : Int) (w : World) : Calls Try.prog 80 #[.int .i64 a, .int .i64 b] w fun e w' => e = .returned (.int .i64 (cmp3 a b)) ∧ w = w' := by
  by_cases h1 : a < b
  · have hf : cmp3 a b = -1 := by simp [cmp3, h1]
    have HF := Lib.hid hf
    clear hf
    go_enter Try.func80, Try.ntmps80
    go_wp2_with (first | (go_at_call 90; refine (isNaN49 _ _).mono ?_; rintro e w' ⟨rfl, rfl⟩))
    go_ret
    exact ⟨by rw [HF.out]; rfl, rfl⟩
  · by_cases h2 : b < a
    · have hf : cmp3 a b = 1 := by simp only [cmp3]; rw [if_neg h1, if_pos h2]
      have HF := Lib.hid hf
      clear hf
      go_enter Try.func80, Try.ntmps80
      go_wp2_with (first | (go_at_call 90; refine (isNaN49 _ _).mono ?_; rintro e w' ⟨rfl, rfl⟩))
      go_ret
      exact ⟨by rw [HF.out]; rfl, rfl⟩
    · have hf : cmp3 a b = 0 := by simp only [cmp3]; rw [if_neg h1, if_neg h2]
      have HF := Lib.hid hf
      clear hf
      go_enter Try.func80, Try.ntmps80
      go_wp2_with (first | (go_at_call 90; refine (isNaN49 _ _).mono ?_; rintro e w' ⟨rfl, rfl⟩))
      go_ret
      exact ⟨by rw [HF.out]; rfl, rfl⟩

theorem atN {w : World} {A : Option Addr} {n : Nat} {xs : List S88} (h : Kd.C k88 w A n xs) (i : Nat) (hi : i < n) : ∃ ad, A = some ad ∧ w.cell? (ad.add (i * 2)) = some (.int .i64 (xs.getD i z88).f0) ∧
    w.cell? ⟨(ad.add (i * 2)).block, (ad.add (i * 2)).off + 1, none⟩ = some (.int .i64 (xs.getD i z88).f1) := at_T88 h (i : Int) (by omega) (by omega)

/-! wheel.find and what it calls. -/
theorem find1 (id at' : Int) (w : World) : Calls Try.prog 77 #[.agg #[.int .i64 id, .int .i64 at']] w fun e w' => e = .returned (.int .i64 id) ∧ Below w.heap.size w w' := by
  go_enter Try.func77, Try.ntmps77
  go_wp2
  go_ret
  exact ⟨rfl, (Below.refl _ _).alloc (Nat.le_refl _) _⟩
theorem row1 (id at' n : Int) (p : Nat) (w : World) (hp : p < w.heap.size) (hc : w.cell? ⟨p, 0, none⟩ = some (.func (.func 77) #[] #[])) :
    Calls Try.prog 87 #[.agg #[.int .i64 id, .int .i64 at'], .int .i64 n, .pointer (some ⟨p, 0, none⟩)] w fun e w' => e = .returned (.int .i64 (cmp3 id n)) ∧ Below w.heap.size w w' := by
  go_enter Try.func87, Try.ntmps87
  go_wp2_with (first | (go_at_call 77; refine (find1 _ _ _).mono ?_; rintro e w1 ⟨rfl, hb1⟩) | (go_at_call 81; refine (cmp42 _ _ _).mono ?_; rintro e w2 ⟨rfl, rfl⟩))
  go_ret
  exact ⟨rfl, ((Below.refl _ _).alloc (Nat.le_refl _) _).trans (hb1.mono (by simp))⟩
def bsGo (l : List S88) (x : Int) (i j : Nat) : Nat :=
  if h : i < j then (if (l.getD ((i + j) / 2) z88).f0 < x then bsGo l x ((i + j) / 2 + 1) j else bsGo l x i ((i + j) / 2)) else i
termination_by j - i
def bs (l : List S88) (x : Int) : Nat := bsGo l x 0 l.length

theorem bsGo_at (l : List S88) (x : Int) (i j : Nat) (h : i < j) : bsGo l x i j = if (l.getD ((i + j) / 2) z88).f0 < x then bsGo l x ((i + j) / 2 + 1) j else bsGo l x i ((i + j) / 2) := by
  rw [bsGo, dif_pos h]
theorem bsGo_end (l : List S88) (x : Int) (i j : Nat) (h : ¬ i < j) : bsGo l x i j = i := by
  rw [bsGo, dif_neg h]
theorem cmp3_lt (a b : Int) : decide (cmp3 a b < 0) = decide (a < b) := by unfold cmp3; split <;> (try split) <;> simp <;> omega
theorem cmp3_eq (a b : Int) : (cmp3 a b == 0) = decide (a = b) := by unfold cmp3; split <;> (try split) <;> simp <;> omega

set_option maxRecDepth 100000 in
set_option maxHeartbeats 400000 in
theorem bsearch (A : Option Addr) (c : Nat) (l : List S88) (x : Int) (p : Nat) (w : World) (hr : Kd.C k88 w A l.length l) (hn : l.length ≤ 1000000) (hp : p < w.heap.size) (hc : w.cell? ⟨p, 0, none⟩ = some (.func (.func 77) #[] #[])) :
    Calls Try.prog 86 #[.slice A l.length c, .int .i64 x, .func (.func 87) #[] #[.pointer (some ⟨p, 0, none⟩)]] w fun e w' =>
      e = .returned (.tuple #[.int .i64 (bs l x), .bool (decide (bs l x < l.length) && decide ((l.getD (bs l x) z88).f0 = x))]) ∧ Below w.heap.size w w' := by
  go_enter Try.func86, Try.ntmps86
  go_wp2_with fail
  go_loopw [9, 10] (fun a b wr => ∃ i j : Nat, i ≤ j ∧ j ≤ l.length ∧ a = .int .i64 i ∧ b = .int .i64 j ∧ Hid (bs l x = bsGo l x i j) ∧ Below w.heap.size w wr) (fun a b _ => (intOf b - intOf a).toNat)
  case atStart => exact ⟨0, l.length, by omega, by omega, rfl, rfl, rfl, Below.refl _ _⟩
  case round =>
    obtain ⟨i, j, hij, hj, rfl, rfl, HB, hb⟩ := hrel
    have hcr : wr.cell? ⟨p, 0, none⟩ = some (.func (.func 77) #[] #[]) := (hb.cell (p := ⟨p, 0, none⟩) hp).trans hc
    have hpr : p < wr.heap.size := Nat.lt_of_lt_of_le hp hb.size
    by_cases hlt : i < j
    · obtain ⟨ad, rfl, c0, c1⟩ := atN (Kd.C_below hr hb) ((i + j) / 2) (by omega)
      have hstep := bsGo_at l x i j hlt
      generalize l.getD ((i + j) / 2) z88 = T at *
      by_cases d : T.f0 < x
      · rw [if_pos d] at hstep
        have HS := Lib.hid hstep
        have e1 : decide (cmp3 T.f0 x < 0) = true := by rw [cmp3_lt]; exact decide_eq_true d
        clear hstep d
        go_wp2_with fail
        refine (row1 _ _ _ _ _ hpr hcr).mono ?_
        rintro e w2 ⟨rfl, hb2⟩
        go_wp2
        go_roundw
        case rel => exact ⟨(i + j) / 2 + 1, j, by omega, hj, by go_num, rfl, HB.out.trans HS.out, hb.trans (hb2.mono hb.size)⟩
        case measure => simp [intOf]; omega
      · rw [if_neg d] at hstep
        have HS := Lib.hid hstep
        have e1 : decide (cmp3 T.f0 x < 0) = false := by rw [cmp3_lt]; exact decide_eq_false d
        clear hstep d
        go_wp2_with fail
        refine (row1 _ _ _ _ _ hpr hcr).mono ?_
        rintro e w2 ⟨rfl, hb2⟩
        go_wp2
        go_roundw
        case rel => exact ⟨i, (i + j) / 2, by omega, by omega, rfl, by go_num, HB.out.trans HS.out, hb.trans (hb2.mono hb.size)⟩
        case measure => simp [intOf]; omega
    · have hend : bs l x = i := HB.out.trans (bsGo_end l x i j hlt)
      by_cases d : i < l.length
      · obtain ⟨ad, rfl, c0, c1⟩ := atN (Kd.C_below hr hb) i d
        have hfin : (decide (bs l x < l.length) && decide ((l.getD (bs l x) z88).f0 = x)) = decide ((l.getD i z88).f0 = x) := by rw [hend, decide_eq_true d]; rfl
        generalize l.getD i z88 = T at *
        have HE := Lib.hid hend
        have HF := Lib.hid hfin
        have e1 := cmp3_eq T.f0 x
        clear hend hfin
        go_wp2_with fail
        refine (row1 _ _ _ _ _ hpr hcr).mono ?_
        rintro e w2 ⟨rfl, hb2⟩
        go_wp2
        go_ret2
        exact ⟨by rw [HF.out, HE.out]; rfl, hb.trans (hb2.mono hb.size)⟩
      · have hfin : (decide (bs l x < l.length) && decide ((l.getD (bs l x) z88).f0 = x)) = false := by rw [hend, decide_eq_false d]; rfl
        have HE := Lib.hid hend
        have HF := Lib.hid hfin
        have e1 : decide ((i : Int) < l.length) = false := decide_eq_false (by omega)
        clear hend hfin
        go_wp2_with fail
        go_ret2
        exact ⟨by rw [HF.out, HE.out]; rfl, hb⟩

set_option maxRecDepth 100000 in
theorem row_any (A : Option Addr) (c : Nat) (l : List S88) (x : Int) (w : World) (hr : Kd.C k88 w A l.length l) (hn : l.length ≤ 1000000) :
    Calls Try.prog 76 #[.slice A l.length c, .int .i64 x, .func (.func 77) #[] #[]] w fun e w' =>
      e = .returned (.tuple #[.int .i64 (bs l x), .bool (decide (bs l x < l.length) && decide ((l.getD (bs l x) z88).f0 = x))]) ∧ Below w.heap.size w w' := by
  have hb0 : Below w.heap.size w (w.alloc (.cells #[.func (.func 77) #[] #[]] 113)) := (Below.refl _ _).alloc (Nat.le_refl _) _
  have hr1 := Kd.C_below hr hb0
  go_enter Try.func76, Try.ntmps76
  go_wp2_with fail
  refine (bsearch _ _ _ _ w.heap.size _ hr1 hn (by simp) (by simp)).mono ?_
  rintro e w2 ⟨rfl, hb2⟩
  go_wp2
  go_ret2
  exact ⟨rfl, hb0.trans (hb2.mono (by simp))⟩

/-- Where a timer is, if it is there; of a wheel that may be. -/
def wheel_find.f (a0_0 : Int) (l0_1 : List S88) (a1 : Int) : Option (Int × Bool) :=
  if l0_1.length ≤ 1000000 then some ((bs l0_1 a1 : Int), (decide (bs l0_1 a1 < l0_1.length) && decide ((l0_1.getD (bs l0_1 a1) z88).f0 = a1)) && okW a0_0 l0_1) else none
set_option maxRecDepth 100000 in
theorem wheel_find.calls (a0_0 : Int) (A0_1 : Option Addr) (c0_1 : Nat) (l0_1 : List (S88)) (a1 : Int) (r1 : Int) (r2 : Bool) (w : World) (hr0_1 : Kd.C k88 w A0_1 l0_1.length l0_1) (hc0_1 : l0_1.length ≤ c0_1) (h : wheel_find.f a0_0 l0_1 a1 = some (r1, r2)) :
    Calls Try.prog 59 #[.agg #[.int .i64 a0_0, .slice A0_1 l0_1.length c0_1], .int .i64 a1] w fun e w' => e = .returned (.tuple #[.int .i64 r1, .bool r2]) ∧ Below w.heap.size w w' := by
  unfold wheel_find.f at h
  by_cases hn : l0_1.length ≤ 1000000
  · rw [if_pos hn] at h
    obtain ⟨rfl, rfl⟩ : (bs l0_1 a1 : Int) = r1 ∧ ((decide (bs l0_1 a1 < l0_1.length) && decide ((l0_1.getD (bs l0_1 a1) z88).f0 = a1)) && okW a0_0 l0_1) = r2 := by simpa using h
    clear h
    have hb0 : Below w.heap.size w (w.alloc (.cells #[.int .i64 a0_0, .slice A0_1 l0_1.length c0_1] 24)) := (Below.refl _ _).alloc (Nat.le_refl _) _
    have hr1 := Kd.C_below hr0_1 hb0
    cases hB : (decide (bs l0_1 a1 < l0_1.length) && decide ((l0_1.getD (bs l0_1 a1) z88).f0 = a1)) with
    | false =>
      have HB := Lib.hid hB
      clear hB
      go_enter Try.func59, Try.ntmps59
      go_wp2_with fail
      refine (row_any _ _ _ _ _ hr1 hn).mono ?_
      rintro e w2 ⟨rfl, hb2⟩
      rw [HB.out]
      go_wp2
      go_ret2
      exact ⟨by simp, hb0.trans (hb2.mono (by simp))⟩
    | true =>
      have HB := Lib.hid hB
      clear hB
      go_enter Try.func59, Try.ntmps59
      go_wp2_with fail
      refine (row_any _ _ _ _ _ hr1 hn).mono ?_
      rintro e w2 ⟨rfl, hb2⟩
      rw [HB.out]
      have g0 : w2.cell? ⟨w.heap.size, 0, none⟩ = some (.int .i64 a0_0) := by rw [hb2.cell (by simp)]; simp
      have g1 : w2.cell? ⟨w.heap.size, 1, none⟩ = some (.slice A0_1 l0_1.length c0_1) := by rw [hb2.cell (by simp)]; simp
      have hr2 := Kd.C_below hr1 hb2
      go_wp2_with fail
      refine (Check_any _ _ _ _ _ hr2 hc0_1 (by omega)).mono ?_
      rintro e w3 ⟨rfl, hb3⟩
      cases hK : okW a0_0 l0_1 with
      | true =>
        go_wp2
        go_ret2
        exact ⟨by simp [hK], (hb0.trans (hb2.mono (by simp))).trans (hb3.mono (by have := hb2.size; simp at this; omega))⟩
      | false =>
        go_wp2
        go_ret2
        exact ⟨by simp [hK], (hb0.trans (hb2.mono (by simp))).trans (hb3.mono (by have := hb2.size; simp at this; omega))⟩
  · rw [if_neg hn] at h
    cases h
end Go.Proofs.Ytlddekjlmkimnaa.C
end
section
namespace Go.Proofs.Ytlddekjlmkimnaa.C
open Go.RowKit Go.Sort Go.Proofs.YtlddekjlmkimnaaW.PrintWords Go.Proofs.YtlddekjlmkimnaaW.PrintLast Go.Proofs.YtlddekjlmkimnaaW.PrintMore
set_option linter.unusedVariables false
set_option linter.unusedSimpArgs false

/-- The first of two numbers that is not 0. -/
def or2 (x y : Int) : Int := if x = 0 then y else x
theorem or_f (x y : Int) : cmp_Or_int.f 4 [x, y] = some (or2 x y) := by
  unfold cmp_Or_int.f or2
  by_cases hx : x = 0
  · subst hx
    by_cases hy : y = 0
    · subst hy; simp [cmp_Or_int.l0, rd, wrap64]
    · simp [cmp_Or_int.l0, rd, wrap64, hy]
  · simp [cmp_Or_int.l0, rd, wrap64, hx]

def ordF (a b : S88) : Int := or2 (cmp3 a.f1 b.f1) (cmp3 a.f0 b.f0)
theorem reads2 (w : World) (g : Nat) (x y : Int) (h0 : w.cell? ⟨g, 0, none⟩ = some (.int .i64 x)) (h1 : w.cell? ⟨g, 1, none⟩ = some (.int .i64 y)) : Kd.C (Kd.int .i64) w (some ⟨g, 0, none⟩) 2 [x, y] := by
  refine ⟨rfl, by omega, fun _ => ⟨_, rfl, fun j p hj => ?_⟩⟩
  match j, hj with
  | 0, hj => obtain rfl : x = p := by simpa using hj
             exact ⟨[.int .i64 x], rfl, rfl, fun i u hu => by
               match i, hu with
               | 0, hu => obtain rfl : .int .i64 x = u := by simpa using hu
                          exact h0⟩
  | 1, hj => obtain rfl : y = p := by simpa using hj
             exact ⟨[.int .i64 y], rfl, rfl, fun i u hu => by
               match i, hu with
               | 0, hu => obtain rfl : .int .i64 y = u := by simpa using hu
                          exact h1⟩

theorem drew_grow_n (w : World) (os : Array Obj) (m : Nat) : (grow w os).drewN m = grow (w.drewN m) os := rfl
theorem grow3 (w : World) (A B C : Obj) : ((w.alloc A).alloc B).alloc C = grow w #[A, B, C] := by
  rw [alloc_eq_grow, alloc_eq_grow, alloc_eq_grow, grow_grow, grow_grow]; rfl

set_option maxRecDepth 100000 in
set_option maxHeartbeats 1000000 in
theorem order_any (a b : S88) (w : World) : Calls Try.prog 68 #[.agg #[.int .i64 a.f0, .int .i64 a.f1], .agg #[.int .i64 b.f0, .int .i64 b.f1]] w fun e w' => e = .returned (.int .i64 (ordF a b)) ∧ ∃ q os, w' = grow (w.drewN q) os := by
  have c1 := fun W => cmp41 a.f1 b.f1 W
  have c2 := fun W => cmp42 a.f0 b.f0 W
  have hfin : ordF a b = or2 (cmp3 a.f1 b.f1) (cmp3 a.f0 b.f0) := rfl
  generalize cmp3 a.f1 b.f1 = x at *
  generalize cmp3 a.f0 b.f0 = y at *
  have HF := Lib.hid hfin
  have C1 := Lib.hid c1
  have C2 := Lib.hid c2
  clear hfin c1 c2
  obtain ⟨W1, hW1⟩ : ∃ W1, (w.alloc (.cells #[.int .i64 a.f0, .int .i64 a.f1] 88)).alloc (.cells #[.int .i64 b.f0, .int .i64 b.f1] 88) = W1 := ⟨_, rfl⟩
  have a0 : W1.cell? ⟨w.heap.size, 0, none⟩ = some (.int .i64 a.f0) := by subst hW1; go_simp
  have a1 : W1.cell? ⟨w.heap.size, 1, none⟩ = some (.int .i64 a.f1) := by subst hW1; go_simp
  have b0 : W1.cell? ⟨w.heap.size + 1, 0, none⟩ = some (.int .i64 b.f0) := by subst hW1; go_simp
  have b1 : W1.cell? ⟨w.heap.size + 1, 1, none⟩ = some (.int .i64 b.f1) := by subst hW1; go_simp
  go_enter Try.func68, Try.ntmps68
  go_wp2_with fail
  have HW := Lib.hid hW1
  clear hW1
  go_still_tail 10, (by kernel_rfl)
  still_call ((C1.out _).mono fun e w' h => ⟨h.1, h.2.symm⟩)
  repeat still_step
  still_call ((C2.out _).mono fun e w' h => ⟨h.1, h.2.symm⟩)
  refine wpStill_nil ?_
  go_wp2_with fail
  refine (cmp_Or_int.calls 4 _ _ [x, y] (or2 x y) _ (reads2 _ _ x y (by go_simp) (by go_simp)) (by simp) (or_f x y)).mono ?_
  rintro e w2 ⟨rfl, ⟨m, rfl⟩⟩
  go_wp2
  go_ret
  refine ⟨by rw [HF.out]; rfl, 1 + m, #[.cells #[.int .i64 a.f0, .int .i64 a.f1] 88, .cells #[.int .i64 b.f0, .int .i64 b.f1] 88, .cells #[.int .i64 x, .int .i64 y] 3], ?_⟩
  rw [← HW.out]
  rw [grow3, drew_grow_n]
end Go.Proofs.Ytlddekjlmkimnaa.C
end
