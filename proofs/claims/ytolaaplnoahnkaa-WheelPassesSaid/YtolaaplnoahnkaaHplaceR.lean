import Derived.Test.YtolaaplnoahnkaaHlist
import Derived.Test.YtolaaplnoahnkaaCdig
namespace Go.Proofs.Ytolaaplnoahnkaa.C
open Go.RowKit Go.Sort Go.Proofs.YtolaaplnoahnkaaW.PrintWords Go.Proofs.YtolaaplnoahnkaaW.PrintLast Go.Proofs.YtolaaplnoahnkaaW.PrintMore
set_option linter.unusedVariables false
set_option linter.unusedSimpArgs false

/-! The document's places of a timer. -/
theorem div_pow (t : Int) (ht : 0 ≤ t) (j : Nat) : t / 2 ^ (6 * j) / 64 = t / 2 ^ (6 * (j + 1)) := by
  rw [Int.ediv_ediv_of_nonneg (Int.le_of_lt (Int.pow_pos (by omega)))]
  congr 1
  rw [Nat.mul_add, Int.pow_add]; rfl
theorem div_pow_le (t : Int) (ht : 0 ≤ t) (j : Nat) : 0 ≤ t / 2 ^ (6 * j) ∧ t / 2 ^ (6 * j) ≤ t := by
  have hp : (0 : Int) < 2 ^ (6 * j) := Int.pow_pos (by omega)
  exact ⟨Int.ediv_nonneg ht (Int.le_of_lt hp), Int.ediv_le_self _ ht⟩

theorem digit_l0 (t : Int) (ht : 0 ≤ t) (ht2 : t ≤ 9223372036854775807) (n : Nat) (hn : n ≤ 8) (d : Nat) : ∀ (k j : Nat), j ≤ n → n - j = d → d < k →
    mainsheetref15_digit.l0 k (t / 2 ^ (6 * j)) n j = some (dg t n) := by
  induction d with
  | zero =>
    intro k j h0 h1 hk
    obtain ⟨k, rfl⟩ : ∃ m, k = m + 1 := ⟨k - 1, by omega⟩
    obtain rfl : j = n := by omega
    simp [mainsheetref15_digit.l0, dg]
  | succ d ih =>
    intro k j h0 h1 hk
    obtain ⟨k, rfl⟩ : ∃ m, k = m + 1 := ⟨k - 1, by omega⟩
    have hb := div_pow_le t ht j
    have hw : wrap64 ((j : Int) + 1) = ((j + 1 : Nat) : Int) := by rw [wrap64_id] <;> omega
    have hw2 : wrap64 ((t / 2 ^ (6 * j)).tdiv 64) = t / 2 ^ (6 * (j + 1)) := by
      rw [Int.tdiv_eq_ediv_of_nonneg hb.1, div_pow t ht j]
      have := div_pow_le t ht (j + 1)
      rw [wrap64_id] <;> omega
    simp only [mainsheetref15_digit.l0]
    rw [if_pos (by omega), hw, hw2, ih k (j + 1) (by omega) (by omega) (by omega)]
theorem digit_k (t : Int) (ht : 0 ≤ t) (ht2 : t ≤ 9223372036854775807) (n : Nat) (hn : n ≤ 8) (k : Nat) (hk : 9 ≤ k) : mainsheetref15_digit.f k t n = some (dg t n) := by
  unfold mainsheetref15_digit.f
  have := digit_l0 t ht ht2 n hn n k 0 (by omega) (by omega) (by omega)
  simpa using this

def plR (now at' : Int) : Nat → Int × Int
  | 0 => (0, dg at' 0)
  | j + 1 => if dg now j = dg at' j then plR now at' j else ((j : Int), dg at' j)
def plL (now at' : Int) (L : List (Fin 9)) : Int × Int :=
  match L.find? (fun x => decide (dg now x.val ≠ dg at' x.val)) with
  | some x => (((x.val : Nat) : Int), dg at' x.val)
  | none => (0, at'.tmod 64)
theorem plL_cons (now at' : Int) (x : Fin 9) (L : List (Fin 9)) : plL now at' (x :: L) = if dg now x.val = dg at' x.val then plL now at' L else (((x.val : Nat) : Int), dg at' x.val) := by
  unfold plL
  by_cases h : dg now x.val = dg at' x.val
  · simp [List.find?_cons, h]
  · simp [List.find?_cons, h]
theorem plR_eq (now at' : Int) : placeF now at' = plR now at' 9 := by
  have h0 : placeF now at' = plL now at' (downTo 9) := rfl
  have hd : downTo 9 = [8, 7, 6, 5, 4, 3, 2, 1, 0] := by decide
  have hn : plL now at' [] = (0, dg at' 0) := by
    unfold plL dg
    simp
  rw [h0, hd]
  simp only [plL_cons, hn, plR]
  rfl
theorem placeR_l0 (now at' : Int) (h0 : 0 ≤ now) (h1 : now ≤ 9223372036854775807) (h2 : 0 ≤ at') (h3 : at' ≤ 9223372036854775807) : ∀ (j k : Nat), j ≤ 9 → j + 12 ≤ k → mainsheetref15_Place.l0 k now at' ((j : Int) - 1) = some (plR now at' j)
  | 0, k, hj, hk => by
    obtain ⟨k, rfl⟩ : ∃ m, k = m + 1 := ⟨k - 1, by omega⟩
    simp only [mainsheetref15_Place.l0]
    rw [if_neg (by omega)]
    have := digit_k at' h2 h3 0 (by omega) k (by omega)
    rw [show ((0 : Nat) : Int) = 0 from rfl] at this
    rw [this]; rfl
  | j + 1, k, hj, hk => by
    obtain ⟨k, rfl⟩ : ∃ m, k = m + 1 := ⟨k - 1, by omega⟩
    have hw : wrap64 ((j : Int) - 1) = (j : Int) - 1 := by rw [wrap64_id] <;> omega
    have e : ((j + 1 : Nat) : Int) - 1 = j := by omega
    rw [e]
    simp only [mainsheetref15_Place.l0]
    rw [if_pos (by omega), digit_k now h0 h1 j (by omega) k (by omega), digit_k at' h2 h3 j (by omega) k (by omega), hw, placeR_l0 now at' h0 h1 h2 h3 j k (by omega) (by omega)]
    simp only [Option.bind_some, plR]
    by_cases c : dg now j = dg at' j
    · rw [if_pos c, if_pos c]
    · rw [if_neg c, if_neg c]
theorem placeR_k (now at' : Int) (h0 : 0 ≤ now) (h1 : now ≤ 9223372036854775807) (h2 : 0 ≤ at') (h3 : at' ≤ 9223372036854775807) (k : Nat) (hk : 21 ≤ k) : mainsheetref15_Place.f k now at' = some (placeF now at') := by
  unfold mainsheetref15_Place.f
  have := placeR_l0 now at' h0 h1 h2 h3 9 k (by omega) (by omega)
  rw [plR_eq, ← this]; rfl
end Go.Proofs.Ytolaaplnoahnkaa.C
