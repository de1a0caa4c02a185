import Derived.Test.YtolaaplnoahnkaaC6
import Derived.Test.YtolaaplnoahnkaaC10
namespace Go.Proofs.Ytolaaplnoahnkaa.C
open Go.RowKit Go.Proofs.YtolaaplnoahnkaaW.PrintWords Go.Proofs.YtolaaplnoahnkaaW.PrintLast Go.Proofs.YtolaaplnoahnkaaW.PrintMore
set_option linter.unusedVariables false
set_option linter.unusedSimpArgs false

theorem check_k (now : Int) (l : List S33) (hn : l.length ≤ 9223372036854775806) (k : Nat) (hk : l.length + 2 ≤ k) : wheel_Check.f k now l = some (if okW now l then 0 else 250) := by
  induction k with
  | zero => omega
  | succ k ih =>
    rcases Nat.lt_or_ge k (l.length + 2) with h | h
    · obtain rfl : k = l.length + 1 := by omega
      exact check_f now l hn
    · exact wheel_Check.mono now l k _ (ih h)

theorem rd_at (l : List S33) (i : Nat) (h : i < l.length) : rd_T33 l (i : Int) = l[i] := by simp [rd_T33, List.getD_eq_getElem?_getD, h]

def passOk (t : Int) (l : List S33) : Int × List S33 × List S33 × Int := (t, l.filter (fun x => decide (t < x.f1)), sortT (l.filter (fun x => decide (x.f1 ≤ t))), 0)
def passF (now : Int) (l : List S33) (t : Int) : Int × List S33 × List S33 × Int :=
  if okW now l = true then (if t < now ∨ 1125899906842624 < t then (0, [], [], 2) else passOk t l) else (0, [], [], 250)

theorem pass_l0 (t : Int) (l : List S33) (hn : l.length ≤ 1000000) (d : Nat) : ∀ (k i : Nat) (x8 x9 : List S33), i ≤ l.length → l.length - i = d → d < k → x8.length + d ≤ 1000000 → x9.length + d ≤ 1000000 →
    wheel_Pass.l0 k t x8 x9 l l.length i = some (t, x8 ++ (l.drop i).filter (fun x => decide (t < x.f1)), sortT (x9 ++ (l.drop i).filter (fun x => decide (x.f1 ≤ t))), 0) := by
  induction d with
  | zero =>
    intro k i x8 x9 h0 h1 hk h8 h9
    obtain ⟨k, rfl⟩ : ∃ m, k = m + 1 := ⟨k - 1, by omega⟩
    obtain rfl : i = l.length := by omega
    simp only [wheel_Pass.l0]
    rw [if_neg (by omega)]
    unfold wheel_sorted.f
    rw [if_pos (by omega)]
    simp
  | succ d ih =>
    intro k i x8 x9 h0 h1 hk h8 h9
    obtain ⟨k, rfl⟩ : ∃ m, k = m + 1 := ⟨k - 1, by omega⟩
    have hlt : i < l.length := by omega
    have hd : l.drop i = l[i] :: l.drop (i + 1) := List.drop_eq_getElem_cons hlt
    have hw : wrap64 ((i : Int) + 1) = ((i + 1 : Nat) : Int) := by rw [wrap64_id] <;> omega
    have hl : l.length < 9223372036854775808 := by omega
    simp only [wheel_Pass.l0]
    rw [if_pos (by omega), if_pos (by omega), if_pos (by omega), rd_at l i hlt, hw, hd]
    by_cases c : l[i].f1 ≤ t
    · rw [if_pos c, if_pos (by omega), ih k (i + 1) x8 (x9 ++ [l[i]]) (by omega) (by omega) (by omega) (by omega) (by simp; omega)]
      have c' : ¬ t < l[i].f1 := by omega
      rw [List.filter_cons_of_neg (p := fun x : S33 => decide (t < x.f1)) (by simpa using c'), List.filter_cons_of_pos (p := fun x : S33 => decide (x.f1 ≤ t)) (by simpa using c), List.append_assoc]
      rfl
    · rw [if_neg c, if_pos (by omega), ih k (i + 1) (x8 ++ [l[i]]) x9 (by omega) (by omega) (by omega) (by simp; omega) (by omega)]
      have c' : t < l[i].f1 := by omega
      rw [List.filter_cons_of_pos (p := fun x : S33 => decide (t < x.f1)) (by simpa using c'), List.filter_cons_of_neg (p := fun x : S33 => decide (x.f1 ≤ t)) (by simpa using c), List.append_assoc]
      rfl

theorem passes_k (now : Int) (l : List S33) (t : Int) (hn : l.length ≤ 1000000) (k : Nat) (hk : l.length + 2 ≤ k) :
    wheel_passes.f k now l t = some (if okW now l = true then (if t < now ∨ 1125899906842624 < t then 2 else 0) else 250) := by
  unfold wheel_passes.f
  rw [check_k now l (by omega) k hk]
  simp only [Option.bind_some]
  cases okW now l with
  | false => simp
  | true =>
    simp only [if_true]
    by_cases c1 : t < now
    · simp [c1]
    · by_cases c2 : t > 1125899906842624
      · have : 1125899906842624 < t := c2
        simp [c1, this]
      · have : ¬ 1125899906842624 < t := c2
        simp [c1, this]

theorem pass_k (now : Int) (l : List S33) (t : Int) (hn : l.length ≤ 1000000) (k : Nat) (hk : l.length + 2 ≤ k) : wheel_Pass.f k now l t = some (passF now l t) := by
  unfold wheel_Pass.f passF
  rw [passes_k now l t hn k hk]
  simp only [Option.bind_some]
  cases okW now l with
  | false => simp
  | true =>
    simp only [if_true]
    by_cases c : t < now ∨ 1125899906842624 < t
    · simp [c]
    · rw [if_neg c, if_neg c, if_pos rfl]
      have := pass_l0 t l hn l.length k 0 [] [] (by omega) (by omega) (by omega) (by simpa using hn) (by simpa using hn)
      simp only [List.drop_zero, List.nil_append, Int.ofNat_zero] at this
      exact this

theorem bsGo_le (l : List S33) (x : Int) (n : Nat) : ∀ i j, j - i = n → i ≤ j → bsGo l x i j ≤ j ∧ i ≤ bsGo l x i j := by
  induction n using Nat.strongRecOn with
  | ind n ih =>
    intro i j hn hij
    by_cases h : i < j
    · rw [bsGo_at _ _ _ _ h]
      have hm : i ≤ (i + j) / 2 ∧ (i + j) / 2 < j := by omega
      split
      · have := ih (j - ((i + j) / 2 + 1)) (by omega) ((i + j) / 2 + 1) j rfl (by omega)
        omega
      · have := ih ((i + j) / 2 - i) (by omega) i ((i + j) / 2) rfl (by omega)
        omega
    · rw [bsGo_end _ _ _ _ h]; omega
theorem bs_le (l : List S33) (x : Int) : bs l x ≤ l.length := (bsGo_le l x l.length 0 l.length (by omega) (by omega)).1

def found (l : List S33) (id : Int) : Bool := decide (bs l id < l.length) && decide ((l.getD (bs l id) z33).f0 = id)
/-- A wheel with a timer more (or at another time). -/
def withT (l : List S33) (t : S33) : List S33 := if found l t.f0 = true then l.set (bs l t.f0) t else l.take (bs l t.f0) ++ t :: l.drop (bs l t.f0)
def setF (now : Int) (l : List S33) (id at' : Int) : Int × List S33 × Int :=
  if okW now l = true then (if 0 ≤ id ∧ id < 32 ∧ now < at' ∧ at' ≤ 1125899906842624 then (now, withT l ⟨id, at'⟩, 0) else (0, [], 2)) else (0, [], 250)

theorem find_ok (now : Int) (l : List S33) (id : Int) (hn : l.length ≤ 1000000) (hok : okW now l = true) : wheel_find.f now l id = some ((bs l id : Int), found l id) := by
  unfold wheel_find.f found
  rw [if_pos hn, hok, Bool.and_true]

theorem set_k (now : Int) (l : List S33) (id at' : Int) (hn : l.length ≤ 999999) (k : Nat) (hk : l.length + 2 ≤ k) : wheel_Set.f k now l id at' = some (setF now l id at') := by
  unfold wheel_Set.f setF
  rw [check_k now l (by omega) k hk]
  simp only [Option.bind_some]
  cases hok : okW now l with
  | false => simp
  | true =>
    simp only [if_true, may_f, Option.bind_some]
    by_cases c1 : 0 ≤ id ∧ id < 32
    · have c1' : (decide (0 ≤ id) && decide (id < 32)) = true := by simp [c1.1, c1.2]
      rw [if_pos c1']
      by_cases c2 : at' ≤ now
      · rw [if_pos c2, if_neg (by omega)]
      · rw [if_neg c2]
        by_cases c3 : at' > 1125899906842624
        · rw [if_pos c3, if_neg (by omega)]
        · rw [if_neg c3, if_pos (by omega), find_ok now l id (by omega) hok]
          have hb := bs_le l id
          have hcl : api_Timer_33.f l = some l := by unfold api_Timer_33.f; rw [if_pos (by omega)]
          simp only [Option.bind_some, hcl]
          unfold withT
          simp only
          cases hf : found l id with
          | true =>
            have : bs l id < l.length := by
              unfold found at hf
              simp only [Bool.and_eq_true, decide_eq_true_eq] at hf
              exact hf.1
            simp only [if_true]
            rw [if_pos (by omega), if_pos (by omega)]
            simp
          | false =>
            have hi : api_Timer_34.f l (bs l id) [⟨0, 0⟩] = some (l.take (bs l id) ++ [⟨0, 0⟩] ++ l.drop (bs l id), [⟨0, 0⟩]) := by
              unfold api_Timer_34.f
              rw [if_pos ⟨by omega, by omega, by omega, rfl⟩]
              simp
            simp only [Bool.false_eq_true, if_false, hi, Option.bind_some]
            have hlen : (l.take (bs l id)).length = bs l id := by rw [List.length_take]; omega
            rw [if_pos (by omega), if_pos (by simp; omega)]
            simp only [Int.toNat_natCast, List.append_assoc, List.cons_append, List.nil_append]
            rw [List.set_append_right _ _ (by omega), hlen]
            simp
    · have c1' : ¬ (decide (0 ≤ id) && decide (id < 32)) = true := by simp only [Bool.and_eq_true, decide_eq_true_eq]; exact c1
      rw [if_neg c1', if_neg (by omega)]
end Go.Proofs.Ytolaaplnoahnkaa.C
