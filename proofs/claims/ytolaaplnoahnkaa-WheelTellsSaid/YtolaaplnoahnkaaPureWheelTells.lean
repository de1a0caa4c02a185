import Derived.Test.YtolaaplnoahnkaaHref
import Derived.Test.YtolaaplnoahnkaaHplaceR
import Derived.Test.YtolaaplnoahnkaaHslot
import Derived.Test.YtolaaplnoahnkaaCdig
import Derived.Test.YtolaaplnoahnkaaLtells0
namespace Go.Proofs.Ytolaaplnoahnkaa.C
open Go.RowKit Go.Proofs.YtolaaplnoahnkaaW.PrintWords Go.Proofs.YtolaaplnoahnkaaW.PrintLast Go.Proofs.YtolaaplnoahnkaaW.PrintMore
set_option linter.unusedVariables false
set_option linter.unusedSimpArgs false

theorem eq_l0 (l m : List S33) (hlm : l.length = m.length) (hn : l.length ≤ 1000000) (d : Nat) : ∀ (k i : Nat), i ≤ l.length → l.length - i = d → d < k →
    api_Timer_36.l0 k l m l.length i = some (decide (l.drop i = m.drop i)) := by
  induction d with
  | zero =>
    intro k i h0 h1 hk
    obtain ⟨k, rfl⟩ : ∃ q, k = q + 1 := ⟨k - 1, by omega⟩
    obtain rfl : i = l.length := by omega
    have e : m.drop l.length = [] := by rw [hlm]; simp
    simp [api_Timer_36.l0, e]
  | succ d ih =>
    intro k i h0 h1 hk
    obtain ⟨k, rfl⟩ : ∃ q, k = q + 1 := ⟨k - 1, by omega⟩
    have hlt : i < l.length := by omega
    have hltm : i < m.length := by omega
    have hd : l.drop i = l[i] :: l.drop (i + 1) := List.drop_eq_getElem_cons hlt
    have hdm : m.drop i = m[i] :: m.drop (i + 1) := List.drop_eq_getElem_cons hltm
    have hw : wrap64 ((i : Int) + 1) = ((i + 1 : Nat) : Int) := by rw [wrap64_id] <;> omega
    simp only [api_Timer_36.l0]
    rw [if_pos (by omega), if_pos (by omega), if_pos (by omega), if_pos (by omega), rd_at l i hlt, rd_at m i hltm, hw, ih k (i + 1) (by omega) (by omega) (by omega), hd, hdm]
    by_cases c : (!(l[i].f0 == m[i].f0) || (!(l[i].f1 == m[i].f1))) = true
    · rw [if_pos c, decide_eq_false (fun h => (s33_ext _ _).1 c (by injection h))]
    · rw [if_neg c]
      have e : l[i] = m[i] := Classical.byContradiction fun h => c ((s33_ext _ _).2 h)
      congr 1
      rw [decide_eq_decide]
      constructor
      · intro h; rw [e, h]
      · intro h; injection h
theorem sameW_k (now : Int) (l : List S33) (now' : Int) (m : List S33) (hn : l.length ≤ 1000000) (k : Nat) (hk : l.length + 1 ≤ k) : wheel_Same.f k now l now' m = some (decide (now = now' ∧ l = m)) := by
  have hT : api_Timer_36.f k l m = some (decide (l = m)) := by
    unfold api_Timer_36.f
    by_cases h : l.length = m.length
    · rw [if_pos (by omega)]
      have := eq_l0 l m h hn l.length k 0 (by omega) (by omega) (by omega)
      simpa using this
    · rw [if_neg (by omega), decide_eq_false (fun e => h (by rw [e]))]
  unfold wheel_Same.f
  by_cases h : now = now'
  · rw [if_pos h, hT]
    simp [h]
  · rw [if_neg h]; simp [h]

theorem rdI_at (l : List Int) (i : Nat) (h : i < l.length) : rd l (i : Int) = l[i] := by simp [rd, List.getD_eq_getElem?_getD, h]
theorem tells_l1 (L : List Int) (hn : L.length ≤ 1000) (d : Nat) : ∀ (k i : Nat), i ≤ L.length → L.length - i = d → d < k → mainsheetlaw15_WheelTells.l1 k L L L.length i = some true := by
  induction d with
  | zero =>
    intro k i h0 h1 hk
    obtain ⟨k, rfl⟩ : ∃ q, k = q + 1 := ⟨k - 1, by omega⟩
    simp only [mainsheetlaw15_WheelTells.l1]
    rw [if_neg (by omega)]
  | succ d ih =>
    intro k i h0 h1 hk
    obtain ⟨k, rfl⟩ : ∃ q, k = q + 1 := ⟨k - 1, by omega⟩
    have hw : wrap64 ((i : Int) + 1) = ((i + 1 : Nat) : Int) := by rw [wrap64_id] <;> omega
    simp only [mainsheetlaw15_WheelTells.l1]
    rw [if_pos (by omega), if_pos (by omega), if_pos (by omega), if_pos (by omega), if_pos trivial, hw]
    exact ih k (i + 1) (by omega) (by omega) (by omega)

def tellsFin (k : Nat) (now : Int) (l : List S33) (n0 n1 : Int) (here : List Int) : Option Bool :=
  (wheel_Slot.f now l n0 n1).bind fun t341 => (if (t341.length : Int) = (here.length : Int) then (mainsheetlaw15_WheelTells.l1 k here t341 (t341.length : Int) 0) else (some false))
theorem tells_fin (k : Nat) (hk : 200 ≤ k) (now : Int) (l : List S33) (n0 n1 : Int) (here : List Int) (hn : l.length ≤ 100) (hh : here = if okW now l then slotF now l n0 n1 else []) : tellsFin k now l n0 n1 here = some true := by
  unfold tellsFin wheel_Slot.f
  rw [if_pos (by omega), ← hh]
  simp only [Option.bind_some, if_true]
  have hl : here.length ≤ 100 := by
    rw [hh]; split
    · have := slotF_len now l n0 n1; omega
    · simp
  exact tells_l1 here (by omega) here.length k 0 (by omega) (by omega) (by omega)

theorem Place_bad (now : Int) (l : List S33) (x : Int) (hn : l.length ≤ 1000000) (hok : okW now l = false) : wheel_Place.f now l x = some (0, 0, false) := by
  unfold wheel_Place.f
  rw [at_f now l x hn]
  have : atF now l x = (0, false) := by unfold atF; rw [hok, Bool.and_false]; rfl
  rw [this]; rfl
theorem Place_ok (now : Int) (l : List S33) (t : S33) (hok : okW now l = true) (ht : t ∈ l) : wheel_Place.f now l t.f0 = some ((placeF now t.f1).1, (placeF now t.f1).2, true) := by
  have hl := okW_len hok
  have h0 := okW_all hok
  have hm := okW_mem hok ht
  unfold wheel_Place.f
  rw [at_f now l t.f0 (by omega), atF_ok hok, atR_mem (okW_rise hok) ht, decide_eq_true (by omega)]
  simp only [Option.bind_some, if_true]
  unfold wheel_place.f
  rw [if_pos ⟨h0.1, by omega, by omega, by omega⟩]
  rfl

theorem tells_bad (now : Int) (l : List S33) (n0 n1 : Int) (hn : l.length ≤ 100) (hok : okW now l = false) (here : List Int) (d : Nat) : ∀ (k i : Nat), i ≤ l.length → l.length - i = d →
    mainsheetlaw15_WheelTells.l0 (k + (d + 1)) false here l l.length i now l n0 n1 = tellsFin k now l n0 n1 here := by
  induction d with
  | zero =>
    intro k i h0 h1
    show mainsheetlaw15_WheelTells.l0 (k + 1) _ _ _ _ _ _ _ _ _ = _
    simp only [mainsheetlaw15_WheelTells.l0]
    rw [if_neg (by omega)]
    rfl
  | succ d ih =>
    intro k i h0 h1
    have hlt : i < l.length := by omega
    have hw : wrap64 ((i : Int) + 1) = ((i + 1 : Nat) : Int) := by rw [wrap64_id] <;> omega
    have ih' := ih k (i + 1) (by omega) (by omega)
    obtain ⟨K, hK⟩ : ∃ K, K = k + (d + 1) := ⟨_, rfl⟩
    rw [← hK] at ih'
    rw [show k + (d + 1 + 1) = K + 1 by omega]
    simp only [mainsheetlaw15_WheelTells.l0]
    rw [if_pos (by omega), if_pos (by omega), if_pos (by omega), Place_bad now l _ (by omega) hok]
    simp only [Option.bind_some]
    rw [if_neg (by simp), if_pos trivial, if_pos trivial, if_neg (by simp), hw]
    exact ih'

theorem slotF_cons (now : Int) (x : S33) (r : List S33) (n0 n1 : Int) : slotF now (x :: r) n0 n1 = (if hereB now n0 n1 x.f1 then [x.f0] else []) ++ slotF now r n0 n1 := by
  unfold slotF
  by_cases h : hereB now n0 n1 x.f1 = true <;> simp [List.filter_cons, h]
theorem tells_ok (now : Int) (l : List S33) (n0 n1 : Int) (hok : okW now l = true) (d : Nat) : ∀ (k i : Nat) (here : List Int), 30 ≤ k → i ≤ l.length → l.length - i = d → here.length ≤ i →
    mainsheetlaw15_WheelTells.l0 (k + (2 * d + 1)) true here l l.length i now l n0 n1 = tellsFin k now l n0 n1 (here ++ slotF now (l.drop i) n0 n1) := by
  have hl := okW_len hok
  have ha := okW_all hok
  induction d with
  | zero =>
    intro k i here hk h0 h1 h2
    obtain rfl : i = l.length := by omega
    show mainsheetlaw15_WheelTells.l0 (k + 1) _ _ _ _ _ _ _ _ _ = _
    simp only [mainsheetlaw15_WheelTells.l0]
    rw [if_neg (by omega), List.drop_length]
    have : slotF now [] n0 n1 = [] := rfl
    rw [this, List.append_nil]
    rfl
  | succ d ih =>
    intro k i here hk h0 h1 h2
    have hlt : i < l.length := by omega
    have hw : wrap64 ((i : Int) + 1) = ((i + 1 : Nat) : Int) := by rw [wrap64_id] <;> omega
    have hd : l.drop i = l[i] :: l.drop (i + 1) := List.drop_eq_getElem_cons hlt
    have hmem := List.getElem_mem hlt
    have hm := okW_mem hok hmem
    have ih' := fun here h2 => ih k (i + 1) here hk (by omega) (by omega) h2
    obtain ⟨K, hK⟩ : ∃ K, K = k + (2 * d + 1) := ⟨_, rfl⟩
    rw [← hK] at ih'
    rw [show k + (2 * (d + 1) + 1) = (K + 1) + 1 by omega]
    have hj : mainsheetlaw15_WheelTells.j3 (K + 1) true here (placeF now l[i].f1).1 (placeF now l[i].f1).2 l l.length i false now l n0 n1 l[i].f0 l[i].f1 = tellsFin k now l n0 n1 (here ++ slotF now (l.drop i) n0 n1) := by
      simp only [mainsheetlaw15_WheelTells.j3]
      rw [if_neg (by simp), hw, hd, slotF_cons, ih' here (by omega)]
      by_cases c1 : (placeF now l[i].f1).1 = n0
      · by_cases c2 : (placeF now l[i].f1).2 = n1
        · have : hereB now n0 n1 l[i].f1 = true := by unfold hereB; simp [c1, c2]
          rw [if_pos c1, if_pos c2, if_pos (by omega), ih' _ (by simp; omega), this, if_pos rfl, List.append_assoc]
        · have : hereB now n0 n1 l[i].f1 = false := by unfold hereB; simp [c2]
          rw [if_pos c1, if_neg c2, this, if_neg (by simp), List.nil_append]
      · have : hereB now n0 n1 l[i].f1 = false := by unfold hereB; simp [c1]
        rw [if_neg c1, this, if_neg (by simp), List.nil_append]
    rw [← hj]
    obtain ⟨Q, hQ⟩ : ∃ Q, Q = K + 1 := ⟨_, rfl⟩
    rw [← hQ]
    conv => lhs; simp only [mainsheetlaw15_WheelTells.l0]
    rw [if_pos (by omega), if_pos (by omega), if_pos (by omega), rd_at l i hlt, Place_ok now l _ hok hmem, placeR_k now _ ha.1 (by omega) (by omega) (by omega) Q (by omega)]
    simp only [Option.bind_some, if_true]
    rfl

theorem wheelTells_true (now : Int) (l : List S33) (now' : Int) (m : List S33) (n0 n1 : Int) : mainsheetlaw15_WheelTells.f 1000 now l now' m n0 n1 = some true := by
  unfold mainsheetlaw15_WheelTells.f
  rw [wakes_k 1000 (by omega)]
  simp only [Option.bind_some, if_true]
  have hj : ∀ b, ((l.length : Int) > 100 → b = true) → mainsheetlaw15_WheelTells.j0 1000 b now l now' m n0 n1 = some true := by
    intro b hb
    show mainsheetlaw15_WheelTells.j0 (999 + 1) _ _ _ _ _ _ _ = _
    simp only [mainsheetlaw15_WheelTells.j0]
    cases b with
    | true => rfl
    | false =>
      rw [if_neg (by simp)]
      have hn : l.length ≤ 100 := by
        rcases Nat.lt_or_ge 100 l.length with c | c
        · have := hb (by omega); cases this
        · exact c
      rw [right_k now l (by omega) 999 (by omega), copied_f now l (by omega)]
      simp only [Option.bind_some]
      rw [check_k now l (by omega) 999 (by omega), sameW_k now l now' m (by omega) 999 (by omega), same_k now l now' m (by omega) 999 (by omega), sameW_k now l now l (by omega) 999 (by omega)]
      simp only [Option.bind_some, and_self, decide_true, Bool.not_true, bne_self_eq_false, Bool.false_eq_true, if_false]
      have hj1 : mainsheetlaw15_WheelTells.j1 999 (okW now l) false now l n0 n1 = some true := by
        show mainsheetlaw15_WheelTells.j1 (998 + 1) _ _ _ _ _ _ = _
        simp only [mainsheetlaw15_WheelTells.j1]
        rw [if_neg (by simp)]
        cases hok : okW now l with
        | true =>
          have h32 := okW_len hok
          have := tells_ok now l n0 n1 hok l.length (998 - (2 * l.length + 1)) 0 [] (by omega) (by omega) (by omega) (by simp)
          rw [show 998 - (2 * l.length + 1) + (2 * l.length + 1) = 998 by omega] at this
          rw [show ((0 : Nat) : Int) = 0 from rfl] at this
          rw [this]
          exact tells_fin _ (by omega) now l n0 n1 _ hn (by rw [hok]; simp)
        | false =>
          have := tells_bad now l n0 n1 hn hok [] l.length (998 - (l.length + 1)) 0 (by omega) (by omega)
          rw [show 998 - (l.length + 1) + (l.length + 1) = 998 by omega] at this
          rw [show ((0 : Nat) : Int) = 0 from rfl] at this
          rw [this]
          exact tells_fin _ (by omega) now l n0 n1 _ hn (by rw [hok]; simp)
      cases hok : okW now l with
      | true =>
        rw [hok] at hj1
        simp only [if_true]
        exact hj1
      | false =>
        rw [hok] at hj1
        simp only [Bool.false_eq_true, if_false]
        exact hj1
  by_cases h : (l.length : Int) > 100
  · rw [if_pos h]; exact hj true (fun _ => rfl)
  · rw [if_neg h]; exact hj _ (fun c => absurd c h)
end Go.Proofs.Ytolaaplnoahnkaa.C
