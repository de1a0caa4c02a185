import Derived.Test.YtlddekjlmkimnaaHtl
import Derived.Test.YtlddekjlmkimnaaLtells
import Derived.Test.YtlddekjlmkimnaaJ6
import Derived.Lib.SmallJoins
import Derived.Deep.SlicePairs
section
namespace Go.Proofs.Ytlddekjlmkimnaa.C
open Go.RowKit Go.Proofs.YtlddekjlmkimnaaW.PrintWords Go.Proofs.YtlddekjlmkimnaaW.PrintLast Go.Proofs.YtlddekjlmkimnaaW.PrintMore
set_option linter.unusedVariables false
set_option linter.unusedSimpArgs false

theorem next_k (now : Int) (ts : List S88) (rs : List S47) (h1 : ts.length ≤ 1000000) (h2 : rs.length ≤ 1000000) (k : Nat) (hk : rs.length + ts.length + 30 < k) :
    vtimer_Next.f k now ts rs = some (if okAl now ts rs = true ∧ 0 < ts.length then (minAt ts, true) else (0, false)) := by
  unfold vtimer_Next.f
  rw [chk_k now ts rs h1 h2 k hk]
  simp only [Option.bind_some]
  cases h : okAl now ts rs with
  | false => simp
  | true =>
    have hw := okAl_wheel h
    unfold wheel_Next.f
    rw [if_pos h1, hw]
    by_cases c : 0 < ts.length <;> simp [c]

theorem nextR_l0 (now : Int) (ts : List S88) (hok : okW now ts = true) (d : Nat) : ∀ (k i : Nat) (a : Int), i ≤ ts.length → ts.length - i = d → d < k → (i = 0 → a = 0) → (0 < i → (∃ t ∈ ts, a = t.f1) ∧ ∀ q (hq : q < ts.length), q < i → a ≤ ts[q].f1) →
    mainsheetref18_Next.l0 k a ts ts.length i = some (if 0 < ts.length then minAt ts else 0) := by
  have hl := okW_len hok
  have h0 := (okW_all hok).1
  induction d with
  | zero =>
    intro k i a hi hd hk ha0 ha
    obtain ⟨k, rfl⟩ : ∃ q, k = q + 1 := ⟨k - 1, by omega⟩
    obtain rfl : i = ts.length := by omega
    simp only [mainsheetref18_Next.l0]
    rw [if_neg (by omega)]
    by_cases c : 0 < ts.length
    · rw [if_pos c]
      obtain ⟨⟨t, ht, rfl⟩, h2⟩ := ha c
      obtain ⟨u, hu, e⟩ := minAt_mem ts c
      obtain ⟨q, hq, rfl⟩ := List.getElem_of_mem hu
      have h3 := h2 q hq hq
      have h4 := minAt_le ts t ht
      congr 1; omega
    · rw [if_neg c, ha0 (by omega)]
  | succ d ih =>
    intro k i a hi hd hk ha0 ha
    obtain ⟨k, rfl⟩ : ∃ q, k = q + 1 := ⟨k - 1, by omega⟩
    have hlt : i < ts.length := by clear ha ha0; omega
    have hb1 : i + 1 ≤ ts.length := hlt
    have hb2 : ts.length - (i + 1) = d := by clear ha ha0; omega
    have hb3 : d < k := by clear ha ha0; omega
    have hw : wrap64 ((i : Int) + 1) = ((i + 1 : Nat) : Int) := by clear ha ha0; rw [wrap64_id] <;> omega
    have hm := okW_mem hok (List.getElem_mem hlt)
    simp only [mainsheetref18_Next.l0]
    rw [if_pos (by omega), if_pos (by omega), if_pos (by omega), rd_at ts i hlt, hw]
    by_cases c0 : i = 0
    · subst c0
      rw [if_pos (ha0 rfl)]
      refine ih k 1 _ hb1 hb2 hb3 (fun h => absurd h (by decide)) (fun _ => ⟨⟨_, List.getElem_mem hlt, rfl⟩, fun q hq hq1 => ?_⟩)
      obtain rfl : q = 0 := by omega
      exact Int.le_refl _
    · obtain ⟨⟨t, ht, rfl⟩, h2⟩ := ha (by omega)
      have htm := okW_mem hok ht
      rw [if_neg (by omega)]
      by_cases c1 : ts[i].f1 < t.f1
      · rw [if_pos c1]
        refine ih k (i + 1) _ hb1 hb2 hb3 (fun h => absurd h (Nat.succ_ne_zero i)) (fun _ => ⟨⟨_, List.getElem_mem hlt, rfl⟩, fun q hq hq1 => ?_⟩)
        rcases Nat.lt_or_ge q i with c | c
        · have := h2 q hq c; omega
        · obtain rfl : q = i := by omega
          exact Int.le_refl _
      · rw [if_neg c1]
        refine ih k (i + 1) _ hb1 hb2 hb3 (fun h => absurd h (Nat.succ_ne_zero i)) (fun _ => ⟨⟨t, ht, rfl⟩, fun q hq hq1 => ?_⟩)
        rcases Nat.lt_or_ge q i with c | c
        · exact h2 q hq c
        · obtain rfl : q = i := by omega
          omega
/-- The least time of a loop over timers, whatever they are: the loop ends. -/
theorem nextR_any (ts : List S88) (hn : ts.length ≤ 1000000) (d : Nat) : ∀ (k i : Nat) (a : Int), i ≤ ts.length → ts.length - i = d → d < k → ∃ r, mainsheetref18_Next.l0 k a ts ts.length i = some r := by
  induction d with
  | zero =>
    intro k i a hi hd hk
    obtain ⟨k, rfl⟩ : ∃ q, k = q + 1 := ⟨k - 1, by omega⟩
    simp only [mainsheetref18_Next.l0]
    rw [if_neg (by omega)]
    exact ⟨_, rfl⟩
  | succ d ih =>
    intro k i a hi hd hk
    obtain ⟨k, rfl⟩ : ∃ q, k = q + 1 := ⟨k - 1, by omega⟩
    have hw : wrap64 ((i : Int) + 1) = ((i + 1 : Nat) : Int) := by rw [wrap64_id] <;> omega
    simp only [mainsheetref18_Next.l0]
    rw [if_pos (by omega), if_pos (by omega), if_pos (by omega), hw]
    split
    · exact ih k (i + 1) _ (by omega) (by omega) (by omega)
    · split
      · exact ih k (i + 1) _ (by omega) (by omega) (by omega)
      · exact ih k (i + 1) _ (by omega) (by omega) (by omega)
theorem nextR_k (now : Int) (ts : List S88) (rs : List S47) (h1 : ts.length ≤ 1000000) (k : Nat) (hk : ts.length < k) : ∃ r, mainsheetref18_Next.f k now ts rs = some r ∧ (okW now ts = true → r = if 0 < ts.length then minAt ts else 0) := by
  unfold mainsheetref18_Next.f
  obtain ⟨r, hr⟩ := nextR_any ts h1 ts.length k 0 0 (by omega) (by omega) (by omega)
  refine ⟨r, hr, fun hok => ?_⟩
  have := nextR_l0 now ts hok ts.length k 0 0 (by omega) (by omega) (by omega) (fun _ => rfl) (fun h => by omega)
  rw [hr] at this
  exact Option.some.inj this

theorem asleep_f (own : Int) (h0 : -1000 ≤ own) (h1 : own ≤ 1000) : vtimer_asleep.f own = some (15 + own) := by
  unfold vtimer_asleep.f; rw [wrap64_id (x := 16 + own) (by omega) (by omega), wrap64_id (by omega) (by omega)]; congr 1; omega
theorem sleeps_k (now : Int) (ts : List S88) (rs : List S47) (own : Int) (h0 : -1000 ≤ own) (h3 : own ≤ 1000) (h1 : ts.length ≤ 1000000) (h2 : rs.length ≤ 1000000) (k : Nat) (hk : rs.length + ts.length + 31 < k) :
    vtimer_Sleeps.f k now ts rs own = some (if okAl now ts rs = true ∧ vcpuB own = true then (atR ts (15 + own), decide (0 < atR ts (15 + own))) else (0, false)) := by
  obtain ⟨k, rfl⟩ : ∃ q, k = q + 1 := ⟨k - 1, by omega⟩
  unfold vtimer_Sleeps.f
  rw [chk_k now ts rs h1 h2 (k + 1) (by omega)]
  simp only [Option.bind_some]
  cases h : okAl now ts rs with
  | false => simp [vtimer_Sleeps.j0]
  | true =>
    rw [if_pos rfl, if_pos rfl, vcpu_f]
    simp only [Option.bind_some, vtimer_Sleeps.j0]
    cases hv : vcpuB own with
    | false => simp
    | true =>
      rw [if_neg (by simp), asleep_f own h0 h3]
      simp only [Option.bind_some]
      rw [at_f now ts _ h1, atF_ok (okAl_wheel h)]
      simp
theorem sleepsR_k (now : Int) (ts : List S88) (rs : List S47) (own : Int) (h0 : -1000 ≤ own) (h3 : own ≤ 1000) (h1 : ts.length ≤ 1000000) (k : Nat) (hk : ts.length + 1 ≤ k) :
    mainsheetref18_Sleeps.f k now ts rs own = some (if vcpuB own = true then atR ts (15 + own) else 0) := by
  unfold mainsheetref18_Sleeps.f
  rw [vcpu16_f]
  simp only [Option.bind_some]
  cases hv : vcpuB own with
  | false => simp
  | true =>
    rw [if_pos rfl, wrap64_id (x := 16 + own) (by omega) (by omega), wrap64_id (by omega) (by omega), refAt_k now ts _ h1 k hk, show 16 + own - 1 = 15 + own by omega]
    simp

/-- What Get tells. -/
def getF (ts : List S88) (rs : List S47) (own : Int) : Int × Int × Int × Int × Bool :=
  if posG own rs < rs.length then ((rs.getD (posG own rs) z47).f0, (rs.getD (posG own rs) z47).f1, (rs.getD (posG own rs) z47).f2, atR ts (own - 1), true) else (0, 0, 0, 0, false)
theorem get_k (now : Int) (ts : List S88) (rs : List S47) (own : Int) (h0 : -1000 ≤ own) (h3 : own ≤ 1000) (h1 : ts.length ≤ 1000000) (h2 : rs.length ≤ 1000000) (k : Nat) (hk : rs.length + ts.length + 31 < k) :
    vtimer_Get.f k now ts rs own = some (if okAl now ts rs = true then getF ts rs own else (0, 0, 0, 0, false)) := by
  obtain ⟨k, rfl⟩ : ∃ q, k = q + 1 := ⟨k - 1, by omega⟩
  unfold vtimer_Get.f
  rw [atA_f rs own h2, chk_k now ts rs h1 h2 (k + 1) (by omega)]
  simp only [Option.bind_some]
  cases h : okAl now ts rs with
  | false => simp [vtimer_Get.j0]
  | true =>
    have hr := okAl_rows h
    rw [if_pos rfl, if_pos rfl]
    simp only [vtimer_Get.j0]
    unfold getF
    cases ht : thereA rs own with
    | false =>
      have hn : ¬ posG own rs < rs.length := fun hp => by
        have := (thereA_iff hr own (by omega) (by omega)).2 (posG_lt.1 hp)
        rw [ht] at this; cases this
      rw [if_neg hn]; rfl
    | true =>
      have hp := bsA_pos hr (by omega) (by omega) ht
      have hpl := thereA_lt ht
      rw [hp] at hpl
      rw [if_neg (by simp), if_pos hpl, hp]
      unfold vtimer_alarmed.f
      simp only [Option.bind_some]
      rw [wrap64_id (by omega) (by omega), at_f now ts _ h1, atF_ok (okAl_wheel h)]
      simp only [Option.bind_some]
      rw [if_pos (by omega), if_pos (by omega)]
      simp [rd_T47]
theorem getR_k (now : Int) (ts : List S88) (rs : List S47) (own : Int) (h0 : -1000 ≤ own) (h3 : own ≤ 1000) (h1 : ts.length ≤ 1000000) (h2 : rs.length ≤ 1000000) (k : Nat) (hk : rs.length + ts.length + 1 < k) :
    mainsheetref18_Get.f k now ts rs own = some (getF ts rs own) := by
  unfold mainsheetref18_Get.f getF
  rw [find18_k now ts rs own h2 k (by omega)]
  simp only [Option.bind_some]
  unfold idxF
  by_cases hp : posG own rs < rs.length
  · rw [if_pos hp, if_pos hp, if_neg (by omega), if_pos (by omega), if_pos (by omega), wrap64_id (by omega) (by omega), refAt_k now ts _ h1 k (by omega)]
    simp [rd_T47]
  · rw [if_neg hp, if_neg hp, if_pos (by omega)]

/-- Short alarms. -/
structure Sh (ts : List S88) (rs : List S47) : Prop where
  ts : ts.length ≤ 33
  rs : rs.length ≤ 17
theorem sh_take (ts : List S88) (rs : List S47) : Sh (ts.take 33) (rs.take 17) := ⟨by rw [List.length_take]; omega, by rw [List.length_take]; omega⟩

theorem tells_l1 (l : List S27) (now : Int) (ts : List S88) (rs : List S47) (hs : Sh ts rs) (n i : Int) (d : Nat) : ∀ (k v : Nat), 200 ≤ k → v ≤ 19 → 19 - v = d →
    mainsheetlaw18_VtimerTells.l1 (k + (d + 1)) l (okAl now ts rs) l n i (v : Int) now ts rs = mainsheetlaw18_VtimerTells.l0 k l l n (wrap64 (i + 1)) := by
  have h1 := hs.ts
  have h2 := hs.rs
  induction d with
  | zero =>
    intro k v hk hv hd
    obtain rfl : v = 19 := by omega
    show mainsheetlaw18_VtimerTells.l1 (k + 1) _ _ _ _ _ _ _ _ _ = _
    simp only [mainsheetlaw18_VtimerTells.l1]
    rw [if_neg (by omega)]
  | succ d ih =>
    intro k v hk hv hd
    have ih' := ih k (v + 1) hk (by omega) (by omega)
    have hw1 : wrap64 ((v : Int) - 1) = (v : Int) - 1 := by rw [wrap64_id] <;> omega
    have hw2 : wrap64 ((v : Int) + 1) = ((v + 1 : Nat) : Int) := by rw [wrap64_id] <;> omega
    obtain ⟨K, hK⟩ : ∃ K, K = k + (d + 1) := ⟨_, rfl⟩
    rw [← hK] at ih'
    rw [show k + (d + 1 + 1) = K + 1 by omega]
    simp only [mainsheetlaw18_VtimerTells.l1]
    rw [if_pos (by omega), hw1, get_k now ts rs _ (by omega) (by omega) (by omega) (by omega) K (by omega), sleeps_k now ts rs _ (by omega) (by omega) (by omega) (by omega) K (by omega)]
    simp only [Option.bind_some]
    cases hok : okAl now ts rs with
    | true =>
      rw [hok] at ih'
      rw [if_pos rfl, getR_k now ts rs _ (by omega) (by omega) (by omega) (by omega) K (by omega), sleepsR_k now ts rs _ (by omega) (by omega) (by omega) K (by omega), if_pos rfl]
      simp only [Option.bind_some, beq_self_eq_true, Bool.not_true, Bool.or_self, Bool.false_eq_true, if_false, if_true, bne_self_eq_false, true_and]
      cases hv' : vcpuB ((v : Int) - 1) with
      | true =>
        simp only [if_true, gt_iff_lt, bne_self_eq_false, Bool.false_eq_true, if_false]
        rw [hw2]; exact ih'
      | false =>
        simp only [Bool.false_eq_true, if_false, if_true]
        rw [if_neg (by simp), hw2]; exact ih'
    | false =>
      rw [hok] at ih'
      simp only [Bool.false_eq_true, if_false, beq_self_eq_true, Bool.not_true, Bool.or_self, if_true, false_and]
      rw [if_neg (by simp), if_neg (by simp), hw2]
      exact ih'

theorem tells_j1 (l : List S27) (now : Int) (ts : List S88) (rs : List S47) (hs : Sh ts rs) (n i : Int) (k : Nat) (hk : 200 ≤ k) :
    mainsheetlaw18_VtimerTells.j1 (k + 22) l (okAl now ts rs) l n i false now ts rs = mainsheetlaw18_VtimerTells.l0 k l l n (wrap64 (i + 1)) := by
  have h1 := hs.ts
  have h2 := hs.rs
  have hj2 : mainsheetlaw18_VtimerTells.j2 (k + 21) l (okAl now ts rs) l n i false now ts rs = mainsheetlaw18_VtimerTells.l0 k l l n (wrap64 (i + 1)) := by
    show mainsheetlaw18_VtimerTells.j2 ((k + 20) + 1) _ _ _ _ _ _ _ _ _ = _
    simp only [mainsheetlaw18_VtimerTells.j2]
    rw [if_neg (by simp)]
    exact tells_l1 l now ts rs hs n i 19 k 0 hk (by omega) (by omega)
  obtain ⟨K, hK⟩ : ∃ K, K = k + 21 := ⟨_, rfl⟩
  rw [← hK] at hj2
  rw [show k + 22 = K + 1 by omega]
  obtain ⟨r, hr, hr2⟩ := nextR_k now ts rs (by omega) K (by omega)
  simp only [mainsheetlaw18_VtimerTells.j1]
  rw [if_neg (by simp), next_k now ts rs (by omega) (by omega) K (by omega), hr]
  simp only [Option.bind_some]
  cases hok : okAl now ts rs with
  | true =>
    rw [hok] at hj2
    have hw := okAl_wheel hok
    have e := hr2 hw
    by_cases c : 0 < ts.length
    · rw [if_pos c] at e
      subst e
      obtain ⟨t, ht, e⟩ := minAt_mem ts c
      have hm := okW_mem hw ht
      have h0 := (okW_all hw).1
      have hpos : decide (minAt ts > 0) = true := decide_eq_true (by rw [e]; omega)
      rw [show (if (true = true ∧ 0 < ts.length) then ((minAt ts, true) : Int × Bool) else (0, false)) = (minAt ts, true) from if_pos ⟨rfl, c⟩]
      simp only [if_true]
      rw [hpos, if_neg (by simp)]
      exact hj2
    · rw [if_neg c] at e
      subst e
      rw [show (if (true = true ∧ 0 < ts.length) then ((minAt ts, true) : Int × Bool) else (0, false)) = (0, false) from if_neg (fun h => c h.2)]
      simp only [if_true]
      rw [if_neg (by simp)]
      exact hj2
  | false =>
    rw [hok] at hj2
    simp only [Bool.false_eq_true, if_false, if_true, false_and]
    exact hj2

theorem rd27_at (l : List S27) (i : Nat) (h : i < l.length) : rd_T27 l (i : Int) = l[i] := by simp [rd_T27, List.getD_eq_getElem?_getD, h]
theorem tells_l0 (l : List S27) (d : Nat) : ∀ (k i : Nat), 400 ≤ k → i ≤ 8 → 8 - i = d → i ≤ l.length →
    mainsheetlaw18_VtimerTells.l0 (k + (23 * d + 1)) l l l.length i = some true := by
  induction d with
  | zero =>
    intro k i hk hi hd hil
    obtain rfl : i = 8 := by omega
    show mainsheetlaw18_VtimerTells.l0 (k + 1) _ _ _ _ = _
    simp only [mainsheetlaw18_VtimerTells.l0]
    by_cases c : ((8 : Nat) : Int) < (l.length : Int)
    · rw [if_pos c, if_pos (by omega), if_pos c, if_pos (by omega)]
    · rw [if_neg c]
  | succ d ih =>
    intro k i hk hi hd hil
    obtain ⟨K, hK⟩ : ∃ K, K = k + (23 * d + 1) := ⟨_, rfl⟩
    rw [show k + (23 * (d + 1) + 1) = (K + 22) + 1 by omega]
    obtain ⟨K2, hK2⟩ : ∃ K2, K2 = K + 22 := ⟨_, rfl⟩
    rw [← hK2]
    conv => lhs; simp only [mainsheetlaw18_VtimerTells.l0]
    by_cases c : (i : Int) < (l.length : Int)
    · have hlt : i < l.length := by omega
      have ih' := ih k (i + 1) hk (by omega) (by omega) (by omega)
      rw [← hK] at ih'
      have hl0 : 0 < l.length := by omega
      have hi8 : ¬ (i : Int) = 8 := by omega
      have hl0' : (0 : Int) < (l.length : Int) := by omega
      have hw := Lib.hid (show wrap64 ((i : Int) + 1) = ((i + 1 : Nat) : Int) by rw [wrap64_id] <;> omega)
      have r0 : rd_T27 l 0 = l[0] := rd27_at l 0 hl0
      rw [if_pos c, if_pos (Int.natCast_nonneg i), if_pos c, if_neg hi8, rd27_at l i hlt, r0, short_f, short_f]
      have hs := sh_take l[i].f0.f1 l[i].f1
      generalize l[i].f0.f1.take 33 = ts at *
      generalize l[i].f1.take 17 = rs at *
      generalize l[0].f0.f1.take 33 = ts0 at *
      generalize l[0].f1.take 17 = rs0 at *
      generalize l[i].f0.f0 = now at *
      generalize l[0].f0.f0 = now0 at *
      have h1 := hs.ts
      have h2 := hs.rs
      simp only [Option.bind_some]
      rw [if_pos hl0', right18_k now ts rs (by omega) (by omega) K2 (by omega), chk_k now ts rs (by omega) (by omega) K2 (by omega)]
      simp only [Option.bind_some]
      rw [sameV_k now ts rs now0 ts0 rs0 (by omega) (by omega) K2 (by omega), sameR_k now ts rs now0 ts0 rs0 (by omega) (by omega) K2 (by omega), sameV_k now ts rs now ts rs (by omega) (by omega) K2 (by omega)]
      simp only [Option.bind_some]
      have hj := tells_j1 l now ts rs hs l.length i K (by omega)
      rw [← hK2, hw.out, ih'] at hj
      cases hok : okAl now ts rs with
      | true =>
        rw [hok] at hj
        simp only [if_true, beq_self_eq_true, bne_self_eq_false, Bool.false_eq_true, if_false, and_self, decide_true, Bool.not_true]
        exact hj
      | false =>
        rw [hok] at hj
        have e1 : ((280 : Int) == 0) = false := by decide
        simp only [Bool.false_eq_true, if_false, e1, bne_self_eq_false, if_true, and_self, decide_true, Bool.not_true]
        exact hj
    · rw [if_neg c]
theorem vtimerTells_true (l : List S27) : mainsheetlaw18_VtimerTells.f 1000 l = some true := by
  unfold mainsheetlaw18_VtimerTells.f
  rw [wakes18_k 1000 (by omega)]
  simp only [Option.bind_some, if_true]
  have := tells_l0 l 8 815 0 (by omega) (by omega) (by omega) (by omega)
  exact this
end Go.Proofs.Ytlddekjlmkimnaa.C
end
section
namespace Go.Proofs.Ytlddekjlmkimnaa.C
open Go.RowKit Go.Deep Go.Joins Go.ChangeShapes Go.WideShapes Go.Proofs.YtlddekjlmkimnaaW.PrintWords Go.Proofs.YtlddekjlmkimnaaW.PrintLast Go.Proofs.YtlddekjlmkimnaaW.PrintMore
set_option linter.unusedVariables false
set_option linter.unusedSimpArgs false

/-- A row that is handed in, whatever its elements. -/
theorem open_rows {H α : Type} {enc : TypeId × Value → H} {w : World} {base : Nat} {spare : Nat → Bool} {held : Bool} {t e : TypeId} (d : Kd α) (z : α) (ht : Try.prog.underlying t = some (.slice e)) (hn : Try.prog.cellsOf e = d.sz)
    (hE : ∀ fuel cs x, DataW.trod enc Try.prog w base spare held fuel e cs = some x → ∃ y, d.K w y cs) {fuel : Nat} {cs : List Value} {x : DataW H × List MemPlace} (h : DataW.trod enc Try.prog w base spare held fuel t cs = some x) :
    ∃ A c l, cs = [.slice A l.length c] ∧ Kd.C d w A l.length l ∧ l.length ≤ c := by
  rcases open_slice ht h with ⟨rfl, _⟩ | ⟨a, len, cap, m, n, D, Pl, rfl, _, hl, hm, hmm, _, hx⟩
  · exact ⟨none, 0, [], rfl, ⟨rfl, by simp, fun h => by cases h⟩, Nat.le_refl _⟩
  · have hlm : len ≤ m := by rw [hmm]; split <;> omega
    have each : ∀ i, ∃ y : α, i < len → ∃ c, c.length = d.sz ∧ d.K w y c ∧ ∀ j u, c[j]? = some u → w.cell? (a.add (i * d.sz + j)) = some u := by
      intro i
      by_cases hi : i < len
      · obtain ⟨cs', h1, h2⟩ := hx i (by omega)
        obtain ⟨_, hlen, hcell⟩ := World.cells?_some h1
        obtain ⟨y, hy⟩ := hE _ _ _ h2
        rw [hn] at hlen hcell
        refine ⟨y, fun _ => ⟨cs', hlen, hy, fun j u hu => ?_⟩⟩
        have hj : j < cs'.length := (List.getElem?_eq_some_iff.1 hu).1
        have := hcell j (by omega)
        rw [Go.Deep.add_add] at this
        rw [this, hu]
      · exact ⟨z, fun h => absurd h hi⟩
    obtain ⟨f, hf⟩ := Classical.axiomOfChoice each
    have hm' : cap ≤ 9223372036854775807 := hm
    refine ⟨some a, cap, (List.range len).map f, by simp, ⟨by simp, by simp; omega, fun _ => ⟨a, rfl, fun j p hj => ?_⟩⟩, by simpa using hl⟩
    obtain ⟨hjl, hjp⟩ := List.getElem?_eq_some_iff.1 hj
    have hjl' : j < len := by simpa using hjl
    obtain rfl : f j = p := by simpa using hjp
    exact hf j hjl'
set_option maxRecDepth 100000 in
theorem open_T88 {H : Type} {enc : TypeId × Value → H} {w : World} {base : Nat} {spare : Nat → Bool} {held : Bool} (fuel : Nat) (cs : List Value) (x : DataW H × List MemPlace) (h : DataW.trod enc Try.prog w base spare held fuel 88 cs = some x) : ∃ y, k88.K w y cs := by
  have hh := trod_struct2 Try.underlying88 h
  obtain ⟨y0, y1, n, _, hl, h0, h1⟩ := hh
  rw [show Try.prog.cellsOf 88 = 2 by kernel_rfl] at hl
  match cs, hl with
  | [v0, v1], _ =>
    rw [show Try.prog.cellsOf 3 = 1 by kernel_rfl] at h0
    rw [show Try.prog.cellsOf 2 = 1 by kernel_rfl] at h1
    obtain ⟨a, e0, _, _⟩ := DataW.trod_int Try.underlying3 h0
    obtain ⟨b, e1, _, _⟩ := DataW.trod_int Try.underlying2 h1
    simp at e0 e1
    subst e0 e1
    exact ⟨⟨a, b⟩, k88_mk w ⟨a, b⟩⟩
set_option maxRecDepth 100000 in
theorem open_T47 {H : Type} {enc : TypeId × Value → H} {w : World} {base : Nat} {spare : Nat → Bool} {held : Bool} (fuel : Nat) (cs : List Value) (x : DataW H × List MemPlace) (h : DataW.trod enc Try.prog w base spare held fuel 47 cs = some x) : ∃ y, k47.K w y cs := by
  have hh := trod_struct3 Try.underlying47 h
  obtain ⟨y0, y1, y2, n, _, hl, h0, h1, h2⟩ := hh
  rw [show Try.prog.cellsOf 47 = 3 by kernel_rfl] at hl
  match cs, hl with
  | [v0, v1, v2], _ =>
    rw [show Try.prog.cellsOf 3 = 1 by kernel_rfl] at h0 h1
    rw [show Try.prog.cellsOf 2 = 1 by kernel_rfl] at h2
    obtain ⟨a, e0, _, _⟩ := DataW.trod_int Try.underlying3 h0
    obtain ⟨b, e1, _, _⟩ := DataW.trod_int Try.underlying3 h1
    obtain ⟨c, e2, _, _⟩ := DataW.trod_int Try.underlying2 h2
    simp at e0 e1 e2
    subst e0 e1 e2
    exact ⟨⟨a, b, c⟩, k47_mk w ⟨a, b, c⟩⟩
set_option maxRecDepth 100000 in
theorem open_T24 {H : Type} {enc : TypeId × Value → H} {w : World} {base : Nat} {spare : Nat → Bool} {held : Bool} (fuel : Nat) (cs : List Value) (x : DataW H × List MemPlace) (h : DataW.trod enc Try.prog w base spare held fuel 24 cs = some x) :
    ∃ now A c l, cs = [.int .i64 now, .slice A l.length c] ∧ Kd.C k88 w A l.length l ∧ l.length ≤ c := by
  have hh := trod_struct2 Try.underlying24 h
  obtain ⟨y0, y1, n, _, hl, h0, h1⟩ := hh
  rw [show Try.prog.cellsOf 24 = 2 by kernel_rfl] at hl
  match cs, hl with
  | [v0, v1], _ =>
    rw [show Try.prog.cellsOf 2 = 1 by kernel_rfl] at h0
    rw [show Try.prog.cellsOf 22 = 1 by kernel_rfl] at h1
    obtain ⟨a, e0, _, _⟩ := DataW.trod_int Try.underlying2 h0
    obtain ⟨A, c, l, e1, hC, hc⟩ := open_rows k88 ⟨0, 0⟩ Try.underlying22 (by kernel_rfl) open_T88 h1
    simp at e0 e1
    subst e0 e1
    exact ⟨a, A, c, l, rfl, hC, hc⟩
set_option maxRecDepth 100000 in
/-- Alarms that are handed in. -/
theorem open_T27 {H : Type} {enc : TypeId × Value → H} {w : World} {base : Nat} {spare : Nat → Bool} {held : Bool} (fuel : Nat) (cs : List Value) (x : DataW H × List MemPlace) (h : DataW.trod enc Try.prog w base spare held fuel 27 cs = some x) : ∃ y, k27.K w y cs := by
  have hh := trod_struct2 Try.underlying27 h
  obtain ⟨y0, y1, n, _, hl, h0, h1⟩ := hh
  rw [show Try.prog.cellsOf 27 = 3 by kernel_rfl] at hl
  match cs, hl with
  | [v0, v1, v2], _ =>
    rw [show Try.prog.cellsOf 24 = 2 by kernel_rfl] at h0
    rw [show Try.prog.cellsOf 25 = 1 by kernel_rfl] at h1
    obtain ⟨now, A, c, l, e0, hC, hc⟩ := open_T24 _ _ _ h0
    obtain ⟨A2, c2, l2, e1, hC2, hc2⟩ := open_rows k47 ⟨0, 0, 0⟩ Try.underlying25 (by kernel_rfl) open_T47 h1
    simp at e0 e1
    obtain ⟨rfl, rfl⟩ := e0
    subst e1
    exact ⟨⟨⟨now, l⟩, l2⟩, k27_mk w ⟨⟨now, l⟩, l2⟩ hc hC hc2 hC2⟩
set_option maxRecDepth 100000 in
/-- Rows of alarms that are handed in. -/
theorem open_alarms {H : Type} {enc : TypeId × Value → H} {w : World} {r : Reach} {base b0 : Nat} {spare : Nat → Bool} {held : Bool} {v : Value} {d : DataW H} {p : List MemPlace} (hv : Value.okWide Try.prog w r b0 52 v) (h : DataW.Trod enc Try.prog w base spare held 52 v d p) :
    ∃ A c l, v = .slice A l.length c ∧ Kd.C k27 w A l.length l ∧ l.length ≤ c := by
  obtain ⟨a, len, cap, rfl⟩ := okWide_slice Try.underlying52 hv
  obtain ⟨fuel, hf⟩ := h
  obtain ⟨A, c, l, e, hC, hc⟩ := open_rows k27 z27 Try.underlying52 (by kernel_rfl) open_T27 hf
  exact ⟨A, c, l, by simpa [Value.cells] using e, hC, hc⟩
end Go.Proofs.Ytlddekjlmkimnaa.C
end
