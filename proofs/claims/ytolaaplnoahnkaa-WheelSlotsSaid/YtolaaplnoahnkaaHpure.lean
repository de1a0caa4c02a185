import Derived.Test.YtolaaplnoahnkaaC0
import Derived.Test.YtolaaplnoahnkaaC3
namespace Go.Proofs.Ytolaaplnoahnkaa.C
open Go.RowKit Go.Proofs.YtolaaplnoahnkaaW.PrintWords Go.Proofs.YtolaaplnoahnkaaW.PrintLast Go.Proofs.YtolaaplnoahnkaaW.PrintMore
set_option linter.unusedVariables false
set_option linter.unusedSimpArgs false

def okT (now : Int) (t : S33) : Bool := decide (0 ≤ t.f0) && (decide (t.f0 < 32) && (decide (now < t.f1) && decide (t.f1 ≤ 1125899906842624)))
def okL (now : Int) : Int → List S33 → Bool
  | _, [] => true
  | last, t :: r => okT now t && (decide (last < t.f0) && okL now t.f0 r)
/-- May a wheel be? -/
def okW (now : Int) (l : List S33) : Bool := decide (0 ≤ now) && (decide (now ≤ 1125899906842624) && okL now (-1) l)

def prevOf (l : List S33) (i : Nat) : Int := if i = 0 then -1 else (l.getD (i - 1) z33).f0

theorem wrap64_id {x : Int} (h0 : -9223372036854775808 ≤ x) (h1 : x ≤ 9223372036854775807) : wrap64 x = x := by unfold wrap64; omega

theorem may_f (n : Int) : wheel_may.f n = some (decide (0 ≤ n) && decide (n < 32)) := by
  unfold wheel_may.f
  by_cases h : 0 ≤ n <;> simp [h]

theorem check_l0 (now : Int) (l : List S33) (hn : l.length ≤ 9223372036854775806) (d : Nat) : ∀ (k i : Nat), i ≤ l.length → l.length - i = d → d < k →
    wheel_Check.l0 k l l.length i now l = some (if okL now (prevOf l i) (l.drop i) then 0 else 250) := by
  induction d with
  | zero =>
    intro k i h0 h1 hk
    obtain ⟨k, rfl⟩ : ∃ m, k = m + 1 := ⟨k - 1, by omega⟩
    obtain rfl : i = l.length := by omega
    simp [wheel_Check.l0, okL]
  | succ d ih =>
    intro k i h0 h1 hk
    obtain ⟨k, rfl⟩ : ∃ m, k = m + 1 := ⟨k - 1, by omega⟩
    have hlt : i < l.length := by omega
    have hd : l.drop i = l[i] :: l.drop (i + 1) := List.drop_eq_getElem_cons hlt
    have hr : rd_T33 l (i : Int) = l[i] := by simp [rd_T33, List.getD_eq_getElem?_getD, hlt]
    have hw : wrap64 ((i : Int) + 1) = ((i + 1 : Nat) : Int) := by rw [wrap64_id] <;> omega
    have ihh := ih k (i + 1) (by omega) (by omega) (by omega)
    have hp : prevOf l (i + 1) = l[i].f0 := by simp [prevOf, List.getD_eq_getElem?_getD, hlt]
    simp only [wheel_Check.l0]
    rw [if_pos (by omega), if_pos (by omega), if_pos (by omega), hr, may_f]
    simp only [Option.bind_some]
    rw [hd, okL]
    by_cases c1 : (decide (0 ≤ l[i].f0) && decide (l[i].f0 < 32)) = true
    · rw [if_pos c1]
      simp only [Bool.and_eq_true, decide_eq_true_eq] at c1
      by_cases c2 : l[i].f1 ≤ now
      · rw [if_pos c2, if_neg]; simp [okT]; intros; omega
      · rw [if_neg c2]
        by_cases c3 : l[i].f1 > 1125899906842624
        · rw [if_pos c3, if_neg]; simp [okT]; intros; omega
        · rw [if_neg c3]
          have hok : okT now l[i] = true := by simp [okT]; omega
          rw [hok, Bool.true_and, hw, ihh, hp]
          by_cases c4 : (i : Int) > 0
          · have hw2 : wrap64 ((i : Int) - 1) = ((i - 1 : Nat) : Int) := by rw [wrap64_id] <;> omega
            have hr2 : rd_T33 l ((i - 1 : Nat) : Int) = l.getD (i - 1) z33 := by simp [rd_T33]
            rw [if_pos c4, hw2, if_pos (by omega), if_pos (by omega), hr2]
            have hpi : prevOf l i = (l.getD (i - 1) z33).f0 := by unfold prevOf; rw [if_neg (by omega)]
            rw [hpi]
            by_cases c5 : (l.getD (i - 1) z33).f0 ≥ l[i].f0
            · have : decide ((l.getD (i - 1) z33).f0 < l[i].f0) = false := decide_eq_false (by omega)
              rw [if_pos c5, this]; simp
            · rw [if_neg c5]
              have : decide ((l.getD (i - 1) z33).f0 < l[i].f0) = true := decide_eq_true (by omega)
              rw [this, Bool.true_and]
          · rw [if_neg c4]
            obtain rfl : i = 0 := by omega
            have hp0 : prevOf l 0 = -1 := rfl
            have : decide (prevOf l 0 < l[0].f0) = true := decide_eq_true (by omega)
            rw [this, Bool.true_and]
    · rw [if_neg c1, if_neg]; simp only [Bool.and_eq_true, decide_eq_true_eq, okT] at c1 ⊢; intro h; exact c1 ⟨h.1.1, h.1.2.1⟩

theorem check_f (now : Int) (l : List S33) (hn : l.length ≤ 9223372036854775806) : wheel_Check.f (l.length + 2) now l = some (if okW now l then 0 else 250) := by
  unfold wheel_Check.f
  by_cases h : now < 0
  · rw [if_pos h]; simp only [wheel_Check.j0, if_true]; rw [if_neg]; simp [okW]; intros; omega
  · rw [if_neg h]
    simp only [wheel_Check.j0]
    by_cases h2 : now > 1125899906842624
    · rw [if_pos (by simpa using h2), if_neg]; simp [okW]; intros; omega
    · rw [if_neg (by simpa using h2)]
      have := check_l0 now l hn l.length (l.length + 1) 0 (by omega) (by omega) (by omega)
      simp only [List.drop_zero] at this
      rw [show ((0 : Nat) : Int) = 0 from rfl] at this
      rw [this]
      have : okW now l = okL now (-1) l := by unfold okW; rw [decide_eq_true (show 0 ≤ now by omega), decide_eq_true (show now ≤ 1125899906842624 by omega)]; simp
      rw [this]; rfl

/-- wheel.Check, in clean words. -/
theorem Check_any (now : Int) (A : Option Addr) (c : Nat) (l : List S33) (w : World) (hr : Kd.C k33 w A l.length l) (hc : l.length ≤ c) (hn : l.length ≤ 9223372036854775806) :
    Calls Try.prog 10 #[.agg #[.int .i64 now, .slice A l.length c]] w fun e w' => e = .returned (.int .i64 (if okW now l then 0 else 250)) ∧ Below w.heap.size w w' :=
  wheel_Check.calls _ now A c l _ w hr hc (check_f now l hn)
end Go.Proofs.Ytolaaplnoahnkaa.C
