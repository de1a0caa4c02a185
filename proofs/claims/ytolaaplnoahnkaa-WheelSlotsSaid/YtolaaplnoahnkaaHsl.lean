import Derived.Test.YtolaaplnoahnkaaHslot
import Derived.Test.YtolaaplnoahnkaaHlist
namespace Go.Proofs.Ytolaaplnoahnkaa.C
open Go.RowKit Go.Proofs.YtolaaplnoahnkaaW.PrintWords Go.Proofs.YtolaaplnoahnkaaW.PrintLast Go.Proofs.YtolaaplnoahnkaaW.PrintMore
set_option linter.unusedVariables false
set_option linter.unusedSimpArgs false

/-! ### Where a timer stands: a level and a slot, ahead of Now's digit -/
def qd (t : Int) (j : Nat) : Int := t / 2 ^ (6 * j)
theorem qd_succ (t : Int) (ht : 0 ≤ t) (j : Nat) : qd t j / 64 = qd t (j + 1) := by
  unfold qd
  have h : (2 : Int) ^ (6 * (j + 1)) = 2 ^ (6 * j) * 64 := by
    rw [show 6 * (j + 1) = 6 * j + 6 by omega, Int.pow_add]; rfl
  rw [h, Int.ediv_ediv_of_nonneg]
  exact Int.le_of_lt (Int.pow_pos (by decide))
theorem qd_nonneg (t : Int) (ht : 0 ≤ t) (j : Nat) : 0 ≤ qd t j := Int.ediv_nonneg ht (Int.le_of_lt (Int.pow_pos (by decide)))
theorem qd_mono {a b : Int} (h : a ≤ b) (j : Nat) : qd a j ≤ qd b j := Int.ediv_le_ediv (Int.pow_pos (by decide)) h
theorem qd_zero (t : Int) : qd t 0 = t := by simp [qd]
theorem qd_nine {t : Int} (h0 : 0 ≤ t) (h1 : t ≤ 1125899906842624) : qd t 9 = 0 := by
  unfold qd
  exact Int.ediv_eq_zero_of_lt h0 (by rw [show (2 : Int) ^ (6 * 9) = 18014398509481984 by decide]; omega)
theorem dg_qd (t : Int) (ht : 0 ≤ t) (j : Nat) : dg t j = qd t j % 64 := by
  unfold dg
  exact Int.tmod_eq_emod_of_nonneg (qd_nonneg t ht j)
theorem qd_up {a b : Int} (ha : 0 ≤ a) (hb : 0 ≤ b) {m : Nat} (h : qd a m = qd b m) (k : Nat) (hk : m ≤ k) : qd a k = qd b k := by
  induction k with
  | zero =>
    obtain rfl : m = 0 := by omega
    exact h
  | succ k ih =>
    rcases Nat.lt_or_ge m (k + 1) with c | c
    · rw [← qd_succ a ha, ← qd_succ b hb, ih (by omega)]
    · obtain rfl : m = k + 1 := by omega
      exact h

def plS (now at' : Int) : Nat → Int × Int
  | 0 => (0, dg at' 0)
  | j + 1 => if dg now j = dg at' j then plS now at' j else ((j : Int), dg at' j)
def plM (now at' : Int) (L : List (Fin 9)) : Int × Int :=
  match L.find? (fun x => decide (dg now x.val ≠ dg at' x.val)) with
  | some x => (((x.val : Nat) : Int), dg at' x.val)
  | none => (0, at'.tmod 64)
theorem plM_cons (now at' : Int) (x : Fin 9) (L : List (Fin 9)) : plM now at' (x :: L) = if dg now x.val = dg at' x.val then plM now at' L else (((x.val : Nat) : Int), dg at' x.val) := by
  unfold plM
  by_cases h : dg now x.val = dg at' x.val
  · simp [List.find?_cons, h]
  · simp [List.find?_cons, h]
theorem plS_eq (now at' : Int) : placeF now at' = plS now at' 9 := by
  have h0 : placeF now at' = plM now at' (downTo 9) := rfl
  have hd : downTo 9 = [8, 7, 6, 5, 4, 3, 2, 1, 0] := by decide
  have hn : plM now at' [] = (0, dg at' 0) := by
    unfold plM dg
    simp
  rw [h0, hd]
  simp only [plM_cons, hn, plS]
  rfl
/-- A time ahead stands at the highest level whose digits are unlike; its digit is greater there. -/
theorem plS_spec {now at' : Int} (h0 : 0 ≤ now) (h1 : now < at') : ∀ (j : Nat), qd now j = qd at' j → ∃ lv, lv < j ∧ plS now at' j = ((lv : Int), dg at' lv) ∧ dg now lv < dg at' lv ∧ qd now (lv + 1) = qd at' (lv + 1)
  | 0, h => by rw [qd_zero, qd_zero] at h; omega
  | j + 1, h => by
    simp only [plS]
    have e1 := qd_succ now h0 j
    have e2 := qd_succ at' (by omega) j
    have d1 := dg_qd now h0 j
    have d2 := dg_qd at' (by omega) j
    have hm := qd_mono (Int.le_of_lt h1) j
    by_cases c : dg now j = dg at' j
    · rw [if_pos c]
      obtain ⟨lv, h2, h3⟩ := plS_spec h0 h1 j (by omega)
      exact ⟨lv, by omega, h3⟩
    · rw [if_neg c]
      exact ⟨j, by omega, rfl, by omega, h⟩
theorem place_spec {now at' : Int} (h0 : 0 ≤ now) (h1 : now < at') (h2 : at' ≤ 1125899906842624) : ∃ lv : Nat, lv < 9 ∧ placeF now at' = ((lv : Int), dg at' lv) ∧ dg now lv < dg at' lv ∧ qd now (lv + 1) = qd at' (lv + 1) := by
  rw [plS_eq]
  exact plS_spec h0 h1 9 (by rw [qd_nine h0 (by omega), qd_nine (by omega) h2])
theorem dg_bound (t : Int) (ht : 0 ≤ t) (j : Nat) : 0 ≤ dg t j ∧ dg t j < 64 := by
  rw [dg_qd t ht j]; omega
/-- What is due sooner stands no higher. -/
theorem place_mono {now a b : Int} (h0 : 0 ≤ now) (h1 : now < a) (h2 : a ≤ b) (h3 : b ≤ 1125899906842624) : (placeF now a).1 ≤ (placeF now b).1 := by
  obtain ⟨la, p1, p2, p3, p4⟩ := place_spec h0 h1 (by omega)
  obtain ⟨lb, r1, r2, r3, r4⟩ := place_spec h0 (show now < b by omega) h3
  rw [p2, r2]
  simp only
  rcases Nat.lt_or_ge lb la with c | c
  · have e := qd_up h0 (by omega) r4 la (by omega)
    have hm := qd_mono h2 la
    have e1 := qd_succ now h0 la
    have e2 := qd_succ a (by omega) la
    have d1 := dg_qd now h0 la
    have d2 := dg_qd a (by omega) la
    omega
  · omega

/-! ### The slots' numbers, in order -/
def keyOfT (now : Int) (t : S33) : Nat := ((placeF now t.f1).1 * 64 + (placeF now t.f1).2).toNat
def slotsF (now : Int) (l : List S33) (m : Nat) : List Int := (List.range m).flatMap (fun q => slotF now l ((q / 64 : Nat) : Int) ((q % 64 : Nat) : Int))
theorem hereB_key {now : Int} {l : List S33} (hok : okW now l = true) {t : S33} (ht : t ∈ l) (q : Nat) : hereB now ((q / 64 : Nat) : Int) ((q % 64 : Nat) : Int) t.f1 = decide (keyOfT now t = q) := by
  have hn := okW_now hok
  have hm := okW_mem hok ht
  obtain ⟨lv, h1, h2, h3, _⟩ := place_spec hn.1 hm.2.2.1 hm.2.2.2
  have hb := dg_bound t.f1 (by omega) lv
  unfold hereB keyOfT
  rw [h2]
  simp only
  have : (((lv : Int) * 64 + dg t.f1 lv).toNat = q) ↔ ((lv : Int) = ((q / 64 : Nat) : Int) ∧ dg t.f1 lv = ((q % 64 : Nat) : Int)) := by omega
  rw [Bool.eq_iff_iff]
  simp only [Bool.and_eq_true, beq_iff_eq, decide_eq_true_eq]
  exact this.symm
theorem keyOfT_lt {now : Int} {l : List S33} (hok : okW now l = true) {t : S33} (ht : t ∈ l) : keyOfT now t < 576 := by
  have hn := okW_now hok
  have hm := okW_mem hok ht
  obtain ⟨lv, h1, h2, h3, _⟩ := place_spec hn.1 hm.2.2.1 hm.2.2.2
  have hb := dg_bound t.f1 (by omega) lv
  unfold keyOfT
  rw [h2]
  simp only
  omega
theorem slotF_key {now : Int} {l : List S33} (hok : okW now l = true) (q : Nat) : slotF now l ((q / 64 : Nat) : Int) ((q % 64 : Nat) : Int) = (l.filter (fun t => decide (keyOfT now t = q))).map (·.f0) := by
  unfold slotF
  congr 1
  exact List.filter_congr (fun t ht => hereB_key hok ht q)
theorem slotsF_mem {now : Int} {l : List S33} (hok : okW now l = true) (m : Nat) (x : Int) : x ∈ slotsF now l m ↔ ∃ t ∈ l, keyOfT now t < m ∧ t.f0 = x := by
  unfold slotsF
  rw [List.mem_flatMap]
  constructor
  · rintro ⟨q, hq, hx⟩
    rw [slotF_key hok, List.mem_map] at hx
    obtain ⟨t, ht, rfl⟩ := hx
    obtain ⟨h1, h2⟩ := List.mem_filter.1 ht
    exact ⟨t, h1, by have := of_decide_eq_true h2; have := List.mem_range.1 hq; omega, rfl⟩
  · rintro ⟨t, ht, hk, rfl⟩
    exact ⟨keyOfT now t, List.mem_range.2 hk, by rw [slotF_key hok]; exact List.mem_map.2 ⟨t, List.mem_filter.2 ⟨ht, by simp⟩, rfl⟩⟩
theorem rise_nodup {l : List S33} (h : Rise l) : (l.map (·.f0)).Pairwise (· ≠ ·) := by
  rw [List.pairwise_map]
  exact List.Pairwise.imp (fun h => Int.ne_of_lt h) h
theorem slotsF_nodup {now : Int} {l : List S33} (hok : okW now l = true) (m : Nat) : (slotsF now l m).Pairwise (· ≠ ·) := by
  have hr := okW_rise hok
  unfold slotsF
  rw [List.pairwise_flatMap]
  refine ⟨fun q _ => ?_, ?_⟩
  · rw [slotF_key hok]
    exact rise_nodup (hr.sublist List.filter_sublist)
  · refine List.Pairwise.imp ?_ List.pairwise_lt_range
    intro p q hpq x hx y hy e
    rw [slotF_key hok, List.mem_map] at hx hy
    obtain ⟨t, ht, rfl⟩ := hx
    obtain ⟨u, hu, rfl⟩ := hy
    obtain ⟨h1, h2⟩ := List.mem_filter.1 ht
    obtain ⟨h3, h4⟩ := List.mem_filter.1 hu
    have := rise_inj hr h1 h3 e
    subst this
    have h5 := of_decide_eq_true h2
    have h6 := of_decide_eq_true h4
    omega
theorem slotsF_succ (now : Int) (l : List S33) (m : Nat) : slotsF now l (m + 1) = slotsF now l m ++ slotF now l ((m / 64 : Nat) : Int) ((m % 64 : Nat) : Int) := by
  unfold slotsF
  rw [List.range_succ, List.flatMap_append]
  simp
theorem count_key (now : Int) (m : Nat) : ∀ l : List S33, (l.filter (fun t => decide (keyOfT now t < m + 1))).length = (l.filter (fun t => decide (keyOfT now t < m))).length + (l.filter (fun t => decide (keyOfT now t = m))).length
  | [] => rfl
  | t :: l => by
    have ih := count_key now m l
    simp only [List.filter_cons]
    by_cases c1 : keyOfT now t < m
    · rw [if_pos (by simp; omega), if_pos (by simpa using c1), if_neg (by simp; omega)]
      simp only [List.length_cons]; omega
    · by_cases c2 : keyOfT now t = m
      · rw [if_pos (by simp; omega), if_neg (by simpa using c1), if_pos (by simpa using c2)]
        simp only [List.length_cons]; omega
      · rw [if_neg (by simp; omega), if_neg (by simpa using c1), if_neg (by simpa using c2)]
        exact ih
theorem slotsF_len {now : Int} {l : List S33} (hok : okW now l = true) (m : Nat) : (slotsF now l m).length = (l.filter (fun t => decide (keyOfT now t < m))).length := by
  induction m with
  | zero =>
    rw [List.filter_eq_nil_iff.2 (fun t _ => by simp)]
    rfl
  | succ m ih => rw [slotsF_succ, List.length_append, ih, slotF_key hok, List.length_map, count_key]
theorem slotsF_all {now : Int} {l : List S33} (hok : okW now l = true) : (slotsF now l 576).length = l.length := by
  rw [slotsF_len hok, List.filter_eq_self.2 (fun t ht => by simpa using keyOfT_lt hok ht)]
end Go.Proofs.Ytolaaplnoahnkaa.C
