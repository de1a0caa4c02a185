import Derived.Test.YtlddekjlmkimnaaJ22
import Derived.Test.YtlddekjlmkimnaaC23
import Derived.Test.YtlddekjlmkimnaaC25
import Derived.Test.YtlddekjlmkimnaaHat
import Derived.Test.YtlddekjlmkimnaaC9
import Derived.Test.YtlddekjlmkimnaaJ14
section
namespace Go.Proofs.Ytlddekjlmkimnaa.C
open Go.RowKit Go.Sort Go.Proofs.YtlddekjlmkimnaaW.PrintWords Go.Proofs.YtlddekjlmkimnaaW.PrintLast Go.Proofs.YtlddekjlmkimnaaW.PrintMore
set_option linter.unusedVariables false
set_option linter.unusedSimpArgs false

instance : DecidableEq S88 := fun a b => decidable_of_iff (a.f0 = b.f0 ∧ a.f1 = b.f1) (by cases a; cases b; simp)
theorem s88_ext (a b : S88) : (!(a.f0 == b.f0) || (!(a.f1 == b.f1))) = true ↔ a ≠ b := by
  cases a; cases b
  simp
  omega

theorem same_l0 (l m : List S88) (hlm : l.length = m.length) (hn : l.length ≤ 1000000) (d : Nat) : ∀ (k i : Nat), i ≤ l.length → l.length - i = d → d < k →
    mainsheetref15_SameTimers.l0 k l m i = some (decide (l.drop i = m.drop i)) := by
  induction d with
  | zero =>
    intro k i h0 h1 hk
    obtain ⟨k, rfl⟩ : ∃ q, k = q + 1 := ⟨k - 1, by omega⟩
    obtain rfl : i = l.length := by omega
    have e : m.drop l.length = [] := by rw [hlm]; simp
    simp [mainsheetref15_SameTimers.l0, e]
  | succ d ih =>
    intro k i h0 h1 hk
    obtain ⟨k, rfl⟩ : ∃ q, k = q + 1 := ⟨k - 1, by omega⟩
    have hlt : i < l.length := by omega
    have hltm : i < m.length := by omega
    have hd : l.drop i = l[i] :: l.drop (i + 1) := List.drop_eq_getElem_cons hlt
    have hdm : m.drop i = m[i] :: m.drop (i + 1) := List.drop_eq_getElem_cons hltm
    have hw : wrap64 ((i : Int) + 1) = ((i + 1 : Nat) : Int) := by rw [wrap64_id] <;> omega
    simp only [mainsheetref15_SameTimers.l0]
    rw [if_pos (by omega), if_pos (by omega), if_pos (by omega), rd_at l i hlt, rd_at m i hltm, hw, ih k (i + 1) (by omega) (by omega) (by omega), hd, hdm]
    by_cases c : (!(l[i].f0 == m[i].f0) || (!(l[i].f1 == m[i].f1))) = true
    · rw [if_pos c, decide_eq_false (fun h => (s88_ext _ _).1 c (by injection h))]
    · rw [if_neg c]
      have e : l[i] = m[i] := Classical.byContradiction fun h => c ((s88_ext _ _).2 h)
      congr 1
      rw [decide_eq_decide]
      constructor
      · intro h; rw [e, h]
      · intro h; injection h
theorem sameT_k (l m : List S88) (hn : l.length ≤ 1000000) (k : Nat) (hk : l.length + 1 ≤ k) : mainsheetref15_SameTimers.f k l m = some (decide (l = m)) := by
  unfold mainsheetref15_SameTimers.f
  by_cases h : l.length = m.length
  · rw [if_pos (by omega)]
    have := same_l0 l m h hn l.length k 0 (by omega) (by omega) (by omega)
    simpa using this
  · rw [if_neg (by omega), decide_eq_false (fun e => h (by rw [e]))]
theorem same_k (now : Int) (l : List S88) (now' : Int) (m : List S88) (hn : l.length ≤ 1000000) (k : Nat) (hk : l.length + 1 ≤ k) : mainsheetref15_Same.f k now l now' m = some (decide (now = now' ∧ l = m)) := by
  unfold mainsheetref15_Same.f
  by_cases h : now = now'
  · rw [if_pos h, sameT_k l m hn k hk]
    simp [h]
  · rw [if_neg h]; simp [h]

theorem right_l0 (now : Int) (l : List S88) (hn : l.length ≤ 1000000) (d : Nat) : ∀ (k i : Nat), i ≤ l.length → l.length - i = d → d < k →
    mainsheetref15_Right.l0 k i now l = some (okL now (prevOf l i) (l.drop i)) := by
  induction d with
  | zero =>
    intro k i h0 h1 hk
    obtain ⟨k, rfl⟩ : ∃ m, k = m + 1 := ⟨k - 1, by omega⟩
    obtain rfl : i = l.length := by omega
    simp [mainsheetref15_Right.l0, okL]
  | succ d ih =>
    intro k i h0 h1 hk
    obtain ⟨k, rfl⟩ : ∃ m, k = m + 1 := ⟨k - 1, by omega⟩
    have hlt : i < l.length := by omega
    have hd : l.drop i = l[i] :: l.drop (i + 1) := List.drop_eq_getElem_cons hlt
    have hw : wrap64 ((i : Int) + 1) = ((i + 1 : Nat) : Int) := by rw [wrap64_id] <;> omega
    have ihh := ih k (i + 1) (by omega) (by omega) (by omega)
    have hp : prevOf l (i + 1) = l[i].f0 := by simp [prevOf, List.getD_eq_getElem?_getD, hlt]
    simp only [mainsheetref15_Right.l0]
    rw [if_pos (by omega), if_pos (by omega), rd_at l i hlt, hd, okL]
    by_cases c0 : l[i].f0 < 0
    · have : okT now l[i] = false := by simp [okT]; omega
      rw [if_pos c0, this]; rfl
    by_cases c1 : l[i].f0 > 31
    · have : okT now l[i] = false := by simp [okT]; omega
      rw [if_neg c0, if_pos c1, this]; rfl
    by_cases c2 : l[i].f1 ≤ now
    · have : okT now l[i] = false := by simp [okT]; omega
      rw [if_neg c0, if_neg c1, if_pos c2, this]; rfl
    by_cases c3 : l[i].f1 > 1125899906842624
    · have : okT now l[i] = false := by simp [okT]; omega
      rw [if_neg c0, if_neg c1, if_neg c2, if_pos c3, this]; rfl
    have hok : okT now l[i] = true := by simp [okT]; omega
    rw [if_neg c0, if_neg c1, if_neg c2, if_neg c3, hok, Bool.true_and, hw, ihh, hp]
    by_cases c4 : (i : Int) > 0
    · have hw2 : wrap64 ((i : Int) - 1) = ((i - 1 : Nat) : Int) := by rw [wrap64_id] <;> omega
      have hpi : prevOf l i = l[i - 1].f0 := by
        unfold prevOf; rw [if_neg (by omega)]
        simp [List.getD_eq_getElem?_getD, show i - 1 < l.length by omega]
      rw [if_pos c4, hw2, if_pos (by omega), if_pos (by omega), rd_at l (i - 1) (by omega), hpi]
      by_cases c5 : l[i - 1].f0 ≥ l[i].f0
      · rw [if_pos c5, decide_eq_false (by omega)]; rfl
      · rw [if_neg c5, decide_eq_true (by omega), Bool.true_and]
    · rw [if_neg c4]
      obtain rfl : i = 0 := by omega
      have hp0 : prevOf l 0 = -1 := rfl
      rw [hp0, decide_eq_true (by omega), Bool.true_and]
theorem right_k (now : Int) (l : List S88) (hn : l.length ≤ 1000000) (k : Nat) (hk : l.length + 2 ≤ k) : mainsheetref15_Right.f k now l = some (okW now l) := by
  obtain ⟨k, rfl⟩ : ∃ m, k = m + 1 := ⟨k - 1, by omega⟩
  unfold mainsheetref15_Right.f
  by_cases h : now < 0
  · rw [if_pos h]
    have : okW now l = false := by unfold okW; rw [decide_eq_false (by omega)]; rfl
    simp [mainsheetref15_Right.j0, this]
  rw [if_neg h]
  by_cases h2 : now > 1125899906842624
  · rw [if_pos h2]
    have : okW now l = false := by unfold okW; rw [decide_eq_false (p := now ≤ _) (by omega)]; simp
    simp [mainsheetref15_Right.j0, this]
  rw [if_neg h2]
  simp only [mainsheetref15_Right.j0]
  by_cases h3 : (l.length : Int) > 32
  · rw [if_pos (by simpa using h3)]
    have : okW now l = false := by
      by_cases c : okW now l = true
      · have := okW_len c; omega
      · simpa using c
    rw [this]
  · rw [if_neg (by simpa using h3)]
    have := right_l0 now l hn l.length k 0 (by omega) (by omega) (by omega)
    simp only [List.drop_zero] at this
    rw [show ((0 : Nat) : Int) = 0 from rfl] at this
    rw [this]
    have : okW now l = okL now (-1) l := by unfold okW; rw [decide_eq_true (show 0 ≤ now by omega), decide_eq_true (show now ≤ 1125899906842624 by omega)]; simp
    rw [this]; rfl

end Go.Proofs.Ytlddekjlmkimnaa.C
end
section
namespace Go.Proofs.Ytlddekjlmkimnaa.C
open Go.RowKit Go.Sort Go.Proofs.YtlddekjlmkimnaaW.PrintWords Go.Proofs.YtlddekjlmkimnaaW.PrintLast Go.Proofs.YtlddekjlmkimnaaW.PrintMore
set_option linter.unusedVariables false
set_option linter.unusedSimpArgs false

theorem refAt_l0 (now : Int) (l : List S88) (x : Int) (hn : l.length ≤ 1000000) (d : Nat) : ∀ (k i : Nat), i ≤ l.length → l.length - i = d → d < k →
    mainsheetref15_At.l0 k x i now l = some (atR (l.drop i) x) := by
  induction d with
  | zero =>
    intro k i h0 h1 hk
    obtain ⟨k, rfl⟩ : ∃ m, k = m + 1 := ⟨k - 1, by omega⟩
    obtain rfl : i = l.length := by omega
    simp [mainsheetref15_At.l0, atR]
  | succ d ih =>
    intro k i h0 h1 hk
    obtain ⟨k, rfl⟩ : ∃ m, k = m + 1 := ⟨k - 1, by omega⟩
    have hlt : i < l.length := by omega
    have hd : l.drop i = l[i] :: l.drop (i + 1) := List.drop_eq_getElem_cons hlt
    have hw : wrap64 ((i : Int) + 1) = ((i + 1 : Nat) : Int) := by rw [wrap64_id] <;> omega
    simp only [mainsheetref15_At.l0]
    rw [if_pos (by omega), if_pos (by omega), rd_at l i hlt, hw, ih k (i + 1) (by omega) (by omega) (by omega), hd, atR]
    by_cases c : l[i].f0 = x
    · rw [if_pos c, if_pos c]
    · rw [if_neg c, if_neg c]
theorem refAt_k (now : Int) (l : List S88) (x : Int) (hn : l.length ≤ 1000000) (k : Nat) (hk : l.length + 1 ≤ k) : mainsheetref15_At.f k now l x = some (atR l x) := by
  unfold mainsheetref15_At.f
  have := refAt_l0 now l x hn l.length k 0 (by omega) (by omega) (by omega)
  simpa using this


end Go.Proofs.Ytlddekjlmkimnaa.C
end
section
namespace Go.Proofs.Ytlddekjlmkimnaa.C
open Go.RowKit Go.Proofs.YtlddekjlmkimnaaW.PrintWords Go.Proofs.YtlddekjlmkimnaaW.PrintLast Go.Proofs.YtlddekjlmkimnaaW.PrintMore
set_option linter.unusedVariables false
set_option linter.unusedSimpArgs false

/-- The first where there was no error. -/
def sel {α : Type} (e : Int) (a b : α) : α := if e = 0 then a else b
/-- Alarms in a block (g) of the call's own. -/
structure AO (w : World) (base g : Nat) (now : Int) (ts : List S88) (rs : List S47) (sv rv : Value) : Prop where
  blk : w.heap[g]? = some (.cells #[.int .i64 now, sv, rv] 27 (0, 0))
  lo : base ≤ g
  T : Kd.R k88 88 w base (fun _ => True) sv ts
  A : Kd.R k47 47 w base (fun _ => True) rv rs
section
variable {w w1 : World} {base g : Nat} {now : Int} {ts : List S88} {rs : List S47} {sv rv : Value}
theorem AO.below (h : AO w base g now ts rs sv rv) (hb : Below w.heap.size w w1) : AO w1 base g now ts rs sv rv :=
  ⟨blk_below h.blk hb, h.lo, Kd.R_below h.T hb, Kd.R_below h.A hb⟩
/-- The wheel is put anew. -/
theorem AO.put (h : AO w base g now ts rs sv rv) (now' : Int) (sv' : Value) (ts' : List S88) (hT : Kd.R k88 88 w base (fun _ => True) sv' ts') :
    AO ((w.setCell ⟨g, 0, none⟩ (.int .i64 now')).setCell ⟨g, 1, none⟩ sv') base g now' ts' rs sv' rv := by
  have b1 := blk_put h.blk 0 (.int .i64 now') (cs' := #[.int .i64 now', sv, rv]) rfl
  have b2 := blk_put b1 1 sv' (cs' := #[.int .i64 now', sv', rv]) rfl
  refine ⟨b2, h.lo, ?_, ?_⟩
  · have t1 := Kd.R_far (p := ⟨g, 0, none⟩) (Kd.R_types hT h.blk (by decide)) (fun k hk => hk.2) (.int .i64 now')
    exact Kd.R_mono (Kd.R_far (p := ⟨g, 1, none⟩) t1 (fun k hk => hk.2) sv') (fun _ _ => trivial)
  · have t1 := Kd.R_far (p := ⟨g, 0, none⟩) (Kd.R_types h.A h.blk (by decide)) (fun k hk => hk.2) (.int .i64 now')
    exact Kd.R_mono (Kd.R_far (p := ⟨g, 1, none⟩) t1 (fun k hk => hk.2) sv') (fun _ _ => trivial)
end

set_option maxRecDepth 100000 in
set_option maxHeartbeats 1000000 in
theorem set_any (w0 w : World) (g : Nat) (now : Int) (ts : List S88) (rs : List S47) (sv rv : Value) (hB : Below w0.heap.size w0 w) (ha : AO w w0.heap.size g now ts rs sv rv) (id when' : Int) (k : Nat) (z : Int) (az : List S88) (ez : Int) (h : wheel_Set.f k now ts id when' = some (z, az, ez)) :
    Calls Try.prog 49 #[.pointer (some ⟨g, 0, none⟩), .int .i64 id, .int .i64 when'] w fun e w' => e = .returned (.int .i64 ez) ∧ Below w0.heap.size w0 w' ∧
      ∃ sv', AO w' w0.heap.size g (sel ez z now) (sel ez az ts) rs sv' rv := by
  obtain ⟨A, c, rfl, hlc, hC⟩ := Kd.R_reads ha.T
  have hset := wheel_Set.calls k now A c ts id when' z az ez w hC hlc h
  have c0 : w.cell? ⟨g, 0, none⟩ = some (.int .i64 now) := (blk_cell ha.blk 0).trans rfl
  have c1 : w.cell? ⟨g, 1, none⟩ = some (.slice A ts.length c) := (blk_cell ha.blk 1).trans rfl
  have HS := Lib.hid hset
  have HA := Lib.hid ha
  have HB := Lib.hid hB
  clear hset ha hB h hC
  go_enter Try.func49, Try.ntmps49
  go_wp2_with fail
  refine (HS.out).mono ?_
  rintro e w2 ⟨v1, rfl, hR, hb2⟩
  have hA2 := HA.out.below hb2
  have hB2 := below_step HB.out hb2
  have hlo := HA.out.lo
  have hR2 : Kd.R k88 88 w2 w0.heap.size (fun _ => True) v1 az := Kd.R_lower hR HB.out.size
  have hgw : g < w2.heap.size := blk_lt hA2.blk
  have d0 : w2.cell? ⟨g, 0, none⟩ = some (.int .i64 now) := (blk_cell hA2.blk 0).trans rfl
  have d1 : w2.cell? ⟨g, 1, none⟩ = some (.slice A ts.length c) := (blk_cell hA2.blk 1).trans rfl
  have f0 : w2.frozen? ⟨g, 0, none⟩ = false := blk_frozen hA2.blk 0
  have f1 : w2.frozen? ⟨g, 1, none⟩ = false := blk_frozen hA2.blk 1
  have HA2 := Lib.hid hA2
  have HR2 := Lib.hid hR2
  have HB2 := Lib.hid hB2
  obtain ⟨Av, cv, ev⟩ := Kd.R_slice hR2
  subst ev
  clear hA2 hR2 hB2 hR hb2
  by_cases hz : ez = 0
  · subst hz
    go_wp2
    go_ret
    have hX := HA2.out.put z (.slice Av az.length cv) az HR2.out
    refine ⟨rfl, below_alloc (below_set (below_set HB2.out hlo) hlo) _, .slice Av az.length cv, ?_⟩
    simpa [sel] using hX.below ((Below.refl _ _).alloc (Nat.le_refl _) _)
  · have hz1 : (ez == 0) = false := by simpa using hz
    go_wp2
    go_ret
    refine ⟨rfl, below_alloc HB2.out _, .slice A ts.length c, ?_⟩
    simpa [sel, hz] using HA2.out.below ((Below.refl _ _).alloc (Nat.le_refl _) _)
end Go.Proofs.Ytlddekjlmkimnaa.C
end
section
namespace Go.Proofs.Ytlddekjlmkimnaa.C
open Go.RowKit Go.Proofs.YtlddekjlmkimnaaW.PrintWords Go.Proofs.YtlddekjlmkimnaaW.PrintLast Go.Proofs.YtlddekjlmkimnaaW.PrintMore
set_option linter.unusedVariables false
set_option linter.unusedSimpArgs false

/-! ### vtimer.drop and what it calls -/
theorem del1 (x y z own : Int) (p : Nat) (w : World) (hp : p < w.heap.size) (hc : w.cell? ⟨p, 0, none⟩ = some (.int .i64 own)) :
    Calls Try.prog 74 #[.agg #[.int .i64 x, .int .i64 y, .int .i64 z], .pointer (some ⟨p, 0, none⟩)] w fun e w' => e = .returned (.bool (x == own)) ∧ Below w.heap.size w w' := by
  go_enter Try.func74, Try.ntmps74
  go_wp2
  go_ret
  exact ⟨rfl, (Below.refl _ _).alloc (Nat.le_refl _) _⟩

def posG (own : Int) (l : List S47) : Nat := l.findIdx (fun x => x.f0 == own)
def idxF (own : Int) (l : List S47) : Int := if posG own l < l.length then ((posG own l : Nat) : Int) else -1
set_option maxRecDepth 100000 in
set_option maxHeartbeats 1000000 in
theorem index_any (A : Option Addr) (c : Nat) (l : List S47) (own : Int) (p : Nat) (w : World) (hr : Kd.C k47 w A l.length l) (hn : l.length ≤ 1000000) (hp : p < w.heap.size) (hc : w.cell? ⟨p, 0, none⟩ = some (.int .i64 own)) :
    Calls Try.prog 84 #[.slice A l.length c, .func (.func 74) #[] #[.pointer (some ⟨p, 0, none⟩)]] w fun e w' =>
      e = .returned (.int .i64 (idxF own l)) ∧ Below w.heap.size w w' := by
  go_enter Try.func84, Try.ntmps84
  go_wp2_with fail
  go_loopw [8] (fun a wr => ∃ i : Nat, i ≤ l.length ∧ a = .int .i64 i ∧ Hid (∀ q (hq : q < l.length), q < i → l[q].f0 ≠ own) ∧ Below w.heap.size w wr) (fun a _ => l.length - (intOf a).toNat)
  case atStart => exact ⟨0, by omega, rfl, fun q _ hq => by omega, Below.refl _ _⟩
  case round =>
    obtain ⟨i, hi, rfl, HB, hb⟩ := hrel
    have hcr : wr.cell? ⟨p, 0, none⟩ = some (.int .i64 own) := (hb.cell (p := ⟨p, 0, none⟩) hp).trans hc
    have hpr : p < wr.heap.size := Nat.lt_of_lt_of_le hp hb.size
    by_cases hlt : i < l.length
    · obtain ⟨ad, rfl, c0, c1, c2⟩ := atA (Kd.C_below hr hb) i hlt
      have hget : l.getD i z47 = l[i] := by simp [List.getD_eq_getElem?_getD, hlt]
      by_cases d : (l.getD i z47).f0 = own
      · have hpos : posG own l = i := by
          unfold posG
          rw [List.findIdx_eq hlt]
          refine ⟨by rw [← hget]; simpa only [beq_iff_eq] using d, fun q hq => ?_⟩
          simpa using HB.out q (by omega) hq
        have hfin : idxF own l = (i : Int) := by unfold idxF; rw [hpos, if_pos hlt]
        generalize l.getD i z47 = T at *
        have HF := Lib.hid hfin
        have e1 : (T.f0 == own) = true := by simpa using d
        clear hfin hpos d hget
        go_wp2_with fail
        refine (del1 _ _ _ _ _ _ hpr hcr).mono ?_
        rintro e w2 ⟨rfl, hb2⟩
        go_wp2
        go_ret
        exact ⟨by rw [HF.out]; rfl, hb.trans (hb2.mono hb.size)⟩
      · have hstep : ∀ q (hq : q < l.length), q < i + 1 → l[q].f0 ≠ own := fun q hq hqi => by
          rcases Nat.lt_or_ge q i with h1 | h1
          · exact HB.out q hq h1
          · obtain rfl : q = i := by omega
            rwa [hget] at d
        generalize l.getD i z47 = T at *
        have HS := Lib.hid hstep
        have e1 : (T.f0 == own) = false := by simpa using d
        clear hstep d hget
        go_wp2_with fail
        refine (del1 _ _ _ _ _ _ hpr hcr).mono ?_
        rintro e w2 ⟨rfl, hb2⟩
        go_wp2
        go_roundw
        case rel => exact ⟨i + 1, by omega, by go_num, HS, hb.trans (hb2.mono hb.size)⟩
        case measure => simp [intOf]; omega
    · have hpos : ¬ posG own l < l.length := by
        unfold posG
        rw [List.findIdx_lt_length]
        rintro ⟨x, hx, he⟩
        obtain ⟨q, hq, rfl⟩ := List.getElem_of_mem hx
        exact HB.out q hq (by omega) (by simpa using he)
      have hfin : idxF own l = -1 := by unfold idxF; rw [if_neg hpos]
      have HF := Lib.hid hfin
      clear hfin hpos
      go_wp2_with fail
      go_ret
      exact ⟨by rw [HF.out]; rfl, hb⟩

/-- What slices.DeleteFunc leaves, at the row as it stands: the first i are those that stay of the first j, from j on all is as it was. -/
structure Half (l m : List S47) (own : Int) (i j : Nat) : Prop where
  len : m.length = l.length
  ij : i ≤ j
  jl : j ≤ l.length
  fst : m.take i = (l.take j).filter (fun x => !(x.f0 == own))
  rest : m.drop j = l.drop j
theorem Half.skip {l m : List S47} {own : Int} {i j : Nat} (h : Half l m own i j) (hj : j < l.length) (hx : (l.getD j z47).f0 = own) : Half l m own i (j + 1) := by
  have hg : l.getD j z47 = l[j] := by simp [List.getD_eq_getElem?_getD, hj]
  refine ⟨h.len, by have := h.ij; omega, by omega, ?_, ?_⟩
  · rw [h.fst, List.take_succ_eq_append_getElem hj, List.filter_append]
    have : ¬ ((fun x : S47 => !(x.f0 == own)) l[j] = true) := by rw [← hg]; simp only [hx, beq_self_eq_true, Bool.not_true]; simp
    simp only [List.filter_cons, if_neg this, List.filter_nil, List.append_nil]
  · rw [← List.drop_drop, h.rest, List.drop_drop]
theorem Half.keep {l m : List S47} {own : Int} {i j : Nat} (h : Half l m own i j) (hj : j < l.length) (hx : (l.getD j z47).f0 ≠ own) : Half l (m.set i (l.getD j z47)) own (i + 1) (j + 1) := by
  have hg : l.getD j z47 = l[j] := by simp [List.getD_eq_getElem?_getD, hj]
  have hij := h.ij
  have hml := h.len
  have him : i < m.length := by omega
  refine ⟨by rw [List.length_set, hml], by omega, by omega, ?_, ?_⟩
  · rw [List.take_succ_eq_append_getElem (by rw [List.length_set]; exact him), List.take_set_of_le (Nat.le_refl _), h.fst, List.take_succ_eq_append_getElem hj, List.filter_append, List.getElem_set, if_pos rfl, hg]
    have : ((fun x : S47 => !(x.f0 == own)) l[j] = true) := by rw [← hg]; simpa using hx
    simp only [List.filter_cons, if_pos this, List.filter_nil]
  · rw [List.drop_set, if_pos (by omega), ← List.drop_drop, h.rest, List.drop_drop]

theorem posG_half (l : List S47) (own : Int) (h : posG own l < l.length) : Half l l own (posG own l) (posG own l + 1) := by
  have hnot : ∀ q (hq : q < posG own l), ¬ (l[q]'(by omega)).f0 = own := fun q hq => by
    have := List.not_of_lt_findIdx (p := fun x : S47 => x.f0 == own) (xs := l) hq
    simpa using this
  have hyes : (l[posG own l]).f0 = own := by
    have := List.findIdx_getElem (p := fun x : S47 => x.f0 == own) (xs := l) (w := h)
    exact eq_of_beq this
  refine ⟨rfl, by omega, by omega, ?_, rfl⟩
  rw [List.take_succ_eq_append_getElem h, List.filter_append]
  have h1 : (l.take (posG own l)).filter (fun x => !(x.f0 == own)) = l.take (posG own l) := by
    rw [List.filter_eq_self]
    intro x hx
    obtain ⟨q, hq, rfl⟩ := List.getElem_of_mem hx
    rw [List.length_take] at hq
    rw [List.getElem_take]
    simpa using hnot q (by omega)
  have h2 : [l[posG own l]].filter (fun x => !(x.f0 == own)) = [] := by simp [hyes]
  rw [h1, h2, List.append_nil]
theorem posG_none (l : List S47) (own : Int) (h : ¬ posG own l < l.length) : l.filter (fun x => !(x.f0 == own)) = l := by
  rw [List.filter_eq_self]
  intro x hx
  unfold posG at h
  rw [List.findIdx_lt_length] at h
  simp only [not_exists, not_and] at h
  simpa using h x hx
end Go.Proofs.Ytlddekjlmkimnaa.C
end
