import Derived.Test.YtlddekjlmkimnaaJ23
import Derived.Test.YtlddekjlmkimnaaJ5
import Derived.Test.YtlddekjlmkimnaaJ6
import Derived.Test.YtlddekjlmkimnaaC15
import Derived.Test.YtlddekjlmkimnaaC17
import Derived.Test.YtlddekjlmkimnaaJ9
section
namespace Go.Proofs.Ytlddekjlmkimnaa.C
open Go.RowKit Go.Proofs.YtlddekjlmkimnaaW.PrintWords Go.Proofs.YtlddekjlmkimnaaW.PrintLast Go.Proofs.YtlddekjlmkimnaaW.PrintMore
set_option linter.unusedVariables false
set_option linter.unusedSimpArgs false

/-! ### vtimer.drop and what it calls -/
theorem del1 (x y z own : Int) (p : Nat) (w : World) (hp : p < w.heap.size) (hc : w.cell? ⟨p, 0, none⟩ = some (.int .i64 own)) :
    Calls Try.prog 74 #[.agg #[.int .i64 x, .int .i64 y, .int .i64 z], .pointer (some ⟨p, 0, none⟩)] w fun e w' => e = .returned (.bool (x == own)) ∧ Below w.heap.size w w' := by
  go_enter Try.func74, Try.ntmps74
  go_wp2
  go_ret
  exact ⟨rfl, (Below.refl _ _).alloc (Nat.le_refl _) _⟩

def posG (own : Int) (l : List S47) : Nat := l.findIdx (fun x => x.f0 == own)
def idxF (own : Int) (l : List S47) : Int := if posG own l < l.length then ((posG own l : Nat) : Int) else -1
set_option maxRecDepth 100000 in
set_option maxHeartbeats 1000000 in
theorem index_any (A : Option Addr) (c : Nat) (l : List S47) (own : Int) (p : Nat) (w : World) (hr : Kd.C k47 w A l.length l) (hn : l.length ≤ 1000000) (hp : p < w.heap.size) (hc : w.cell? ⟨p, 0, none⟩ = some (.int .i64 own)) :
    Calls Try.prog 84 #[.slice A l.length c, .func (.func 74) #[] #[.pointer (some ⟨p, 0, none⟩)]] w fun e w' =>
      e = .returned (.int .i64 (idxF own l)) ∧ Below w.heap.size w w' := by
  go_enter Try.func84, Try.ntmps84
  go_wp2_with fail
  go_loopw [8] (fun a wr => ∃ i : Nat, i ≤ l.length ∧ a = .int .i64 i ∧ Hid (∀ q (hq : q < l.length), q < i → l[q].f0 ≠ own) ∧ Below w.heap.size w wr) (fun a _ => l.length - (intOf a).toNat)
  case atStart => exact ⟨0, by omega, rfl, fun q _ hq => by omega, Below.refl _ _⟩
  case round =>
    obtain ⟨i, hi, rfl, HB, hb⟩ := hrel
    have hcr : wr.cell? ⟨p, 0, none⟩ = some (.int .i64 own) := (hb.cell (p := ⟨p, 0, none⟩) hp).trans hc
    have hpr : p < wr.heap.size := Nat.lt_of_lt_of_le hp hb.size
    by_cases hlt : i < l.length
    · obtain ⟨ad, rfl, c0, c1, c2⟩ := atA (Kd.C_below hr hb) i hlt
      have hget : l.getD i z47 = l[i] := by simp [List.getD_eq_getElem?_getD, hlt]
      by_cases d : (l.getD i z47).f0 = own
      · have hpos : posG own l = i := by
          unfold posG
          rw [List.findIdx_eq hlt]
          refine ⟨by rw [← hget]; simpa only [beq_iff_eq] using d, fun q hq => ?_⟩
          simpa using HB.out q (by omega) hq
        have hfin : idxF own l = (i : Int) := by unfold idxF; rw [hpos, if_pos hlt]
        generalize l.getD i z47 = T at *
        have HF := Lib.hid hfin
        have e1 : (T.f0 == own) = true := by simpa using d
        clear hfin hpos d hget
        go_wp2_with fail
        refine (del1 _ _ _ _ _ _ hpr hcr).mono ?_
        rintro e w2 ⟨rfl, hb2⟩
        go_wp2
        go_ret
        exact ⟨by rw [HF.out]; rfl, hb.trans (hb2.mono hb.size)⟩
      · have hstep : ∀ q (hq : q < l.length), q < i + 1 → l[q].f0 ≠ own := fun q hq hqi => by
          rcases Nat.lt_or_ge q i with h1 | h1
          · exact HB.out q hq h1
          · obtain rfl : q = i := by omega
            rwa [hget] at d
        generalize l.getD i z47 = T at *
        have HS := Lib.hid hstep
        have e1 : (T.f0 == own) = false := by simpa using d
        clear hstep d hget
        go_wp2_with fail
        refine (del1 _ _ _ _ _ _ hpr hcr).mono ?_
        rintro e w2 ⟨rfl, hb2⟩
        go_wp2
        go_roundw
        case rel => exact ⟨i + 1, by omega, by go_num, HS, hb.trans (hb2.mono hb.size)⟩
        case measure => simp [intOf]; omega
    · have hpos : ¬ posG own l < l.length := by
        unfold posG
        rw [List.findIdx_lt_length]
        rintro ⟨x, hx, he⟩
        obtain ⟨q, hq, rfl⟩ := List.getElem_of_mem hx
        exact HB.out q hq (by omega) (by simpa using he)
      have hfin : idxF own l = -1 := by unfold idxF; rw [if_neg hpos]
      have HF := Lib.hid hfin
      clear hfin hpos
      go_wp2_with fail
      go_ret
      exact ⟨by rw [HF.out]; rfl, hb⟩

/-- What slices.DeleteFunc leaves, at the row as it stands: the first i are those that stay of the first j, from j on all is as it was. -/
structure Half (l m : List S47) (own : Int) (i j : Nat) : Prop where
  len : m.length = l.length
  ij : i ≤ j
  jl : j ≤ l.length
  fst : m.take i = (l.take j).filter (fun x => !(x.f0 == own))
  rest : m.drop j = l.drop j
theorem Half.skip {l m : List S47} {own : Int} {i j : Nat} (h : Half l m own i j) (hj : j < l.length) (hx : (l.getD j z47).f0 = own) : Half l m own i (j + 1) := by
  have hg : l.getD j z47 = l[j] := by simp [List.getD_eq_getElem?_getD, hj]
  refine ⟨h.len, by have := h.ij; omega, by omega, ?_, ?_⟩
  · rw [h.fst, List.take_succ_eq_append_getElem hj, List.filter_append]
    have : ¬ ((fun x : S47 => !(x.f0 == own)) l[j] = true) := by rw [← hg]; simp only [hx, beq_self_eq_true, Bool.not_true]; simp
    simp only [List.filter_cons, if_neg this, List.filter_nil, List.append_nil]
  · rw [← List.drop_drop, h.rest, List.drop_drop]
theorem Half.keep {l m : List S47} {own : Int} {i j : Nat} (h : Half l m own i j) (hj : j < l.length) (hx : (l.getD j z47).f0 ≠ own) : Half l (m.set i (l.getD j z47)) own (i + 1) (j + 1) := by
  have hg : l.getD j z47 = l[j] := by simp [List.getD_eq_getElem?_getD, hj]
  have hij := h.ij
  have hml := h.len
  have him : i < m.length := by omega
  refine ⟨by rw [List.length_set, hml], by omega, by omega, ?_, ?_⟩
  · rw [List.take_succ_eq_append_getElem (by rw [List.length_set]; exact him), List.take_set_of_le (Nat.le_refl _), h.fst, List.take_succ_eq_append_getElem hj, List.filter_append, List.getElem_set, if_pos rfl, hg]
    have : ((fun x : S47 => !(x.f0 == own)) l[j] = true) := by rw [← hg]; simpa using hx
    simp only [List.filter_cons, if_pos this, List.filter_nil]
  · rw [List.drop_set, if_pos (by omega), ← List.drop_drop, h.rest, List.drop_drop]

theorem posG_half (l : List S47) (own : Int) (h : posG own l < l.length) : Half l l own (posG own l) (posG own l + 1) := by
  have hnot : ∀ q (hq : q < posG own l), ¬ (l[q]'(by omega)).f0 = own := fun q hq => by
    have := List.not_of_lt_findIdx (p := fun x : S47 => x.f0 == own) (xs := l) hq
    simpa using this
  have hyes : (l[posG own l]).f0 = own := by
    have := List.findIdx_getElem (p := fun x : S47 => x.f0 == own) (xs := l) (w := h)
    exact eq_of_beq this
  refine ⟨rfl, by omega, by omega, ?_, rfl⟩
  rw [List.take_succ_eq_append_getElem h, List.filter_append]
  have h1 : (l.take (posG own l)).filter (fun x => !(x.f0 == own)) = l.take (posG own l) := by
    rw [List.filter_eq_self]
    intro x hx
    obtain ⟨q, hq, rfl⟩ := List.getElem_of_mem hx
    rw [List.length_take] at hq
    rw [List.getElem_take]
    simpa using hnot q (by omega)
  have h2 : [l[posG own l]].filter (fun x => !(x.f0 == own)) = [] := by simp [hyes]
  rw [h1, h2, List.append_nil]
theorem posG_none (l : List S47) (own : Int) (h : ¬ posG own l < l.length) : l.filter (fun x => !(x.f0 == own)) = l := by
  rw [List.filter_eq_self]
  intro x hx
  unfold posG at h
  rw [List.findIdx_lt_length] at h
  simp only [not_exists, not_and] at h
  simpa using h x hx
end Go.Proofs.Ytlddekjlmkimnaa.C
end
section
-- Written by a program of this session (wip/tools/stub.py, over the kit's print) and by hand; not the kit's print.
namespace Go.Proofs.Ytlddekjlmkimnaa.C
open Go.RowKit Go.Proofs.YtlddekjlmkimnaaW.PrintWords Go.Proofs.YtlddekjlmkimnaaW.PrintLast Go.Proofs.YtlddekjlmkimnaaW.PrintMore
attribute [local go_sem] max2_int min2_int max_two min_two max_three min_three max_four min_four   -- for this text's walks alone
set_option linter.unusedVariables false
set_option linter.unusedSimpArgs false

/-! ### vtimer_Next: function 13 -/
/-! ### vtimer_asleep: function 41 -/
def vtimer_asleep.f (a0 : Int) : Option (Int) := some (wrap64 ((wrap64 (16 + a0)) - 1))
set_option maxHeartbeats 8000000 in
set_option maxRecDepth 100000 in
theorem vtimer_asleep.calls (a0 : Int) (r : Int) (w : World) (h : vtimer_asleep.f a0 = some r) :
 Calls Try.prog 41 #[.int .i64 a0] w fun e w' => e = .returned (.int .i64 r) ∧ Drawn0 w w' := by
 have H : (some (wrap64 ((wrap64 (16 + a0)) - 1))) = some r := h
 clear h
 obtain rfl := Option.some.inj H
 go_enter Try.func41, Try.ntmps41
 go_wp2
 go_ret
 exact ⟨by first | rfl | (simp; done) | (simp [*]; done), by repeat (first | exact Drawn0.refl _ | apply Drawn0.step)⟩

/-! ### vtimer_Sleeps: function 15 -/
def vtimer_Sleeps.j0 : Nat → Int → Bool → Int → List (S88) → List (S47) → Option (Int × Bool)
 | 0, _, _, _, _, _ => none
 | k + 1, x1, x13, x301000, x301001, x301002 => if x13 = true then (some (0, false)) else ((vtimer_asleep.f x1).bind fun t303 => ((wheel_At.f x301000 x301001 t303).bind fun bt304 => (some (bt304.1, bt304.2))))
def vtimer_Sleeps.f (k : Nat) (a0_0 : Int) (l0_1 : List (S88)) (l0_2 : List (S47)) (a1 : Int) : Option (Int × Bool) := (vtimer_Check.f k a0_0 l0_1 l0_2).bind fun t301 => (if t301 = 0 then ((vtimer_vcpu.f a1).bind fun t302 => (vtimer_Sleeps.j0 k a1 (!t302) a0_0 l0_1 l0_2)) else (vtimer_Sleeps.j0 k a1 true a0_0 l0_1 l0_2))
theorem vtimer_Sleeps.mono_l : ∀ k, (∀ y0 y1 y2 y3 y4, LeO (vtimer_Sleeps.j0 k y0 y1 y2 y3 y4) (vtimer_Sleeps.j0 (k + 1) y0 y1 y2 y3 y4))
 | 0 => fun _ _ _ _ _ r h => by simp [vtimer_Sleeps.j0] at h
 | k + 1 => by
  have ih0 := vtimer_Sleeps.mono_l k
  · intro y0 y1 y2 y3 y4
    unfold vtimer_Sleeps.j0
    repeat' first
    | (with_reducible exact ih0 _ _ _ _ _)
    | (with_reducible exact vtimer_Check.mono _ _ _ _)
    | (with_reducible exact LeO.refl _)
    | (with_reducible exact LeO.none _)
    | (with_reducible refine LeO.ite ?_ ?_)
    | (with_reducible refine LeO.bind ?_ (fun _ => ?_))
    | exact ih0 _ _ _ _ _
    | exact vtimer_Check.mono _ _ _ _
    | exact LeO.none _
    | refine LeO.ite ?_ ?_
    | refine LeO.bind ?_ (fun _ => ?_)
theorem vtimer_Sleeps.mono : ∀ a0 a1 a2 a3 k, LeO (vtimer_Sleeps.f k a0 a1 a2 a3) (vtimer_Sleeps.f (k + 1) a0 a1 a2 a3) := by
 intro a0 a1 a2 a3 k
 have ih0 := vtimer_Sleeps.mono_l k
 unfold vtimer_Sleeps.f
 repeat' first
  | (with_reducible exact ih0 _ _ _ _ _)
  | (with_reducible exact vtimer_Check.mono _ _ _ _)
  | (with_reducible exact LeO.refl _)
  | (with_reducible exact LeO.none _)
  | (with_reducible refine LeO.ite ?_ ?_)
  | (with_reducible refine LeO.bind ?_ (fun _ => ?_))
  | exact ih0 _ _ _ _ _
  | exact vtimer_Check.mono _ _ _ _
  | exact LeO.none _
  | refine LeO.ite ?_ ?_
  | refine LeO.bind ?_ (fun _ => ?_)
def vtimer_Sleeps.T3 : Bool × List (List Nat × List Nat) := (true, [([], []), ([0], [0]), ([], []), ([2], [2]), ([1, 3, 3], [1, 3]), ([4], [4]), ([4], [4]), ([5, 4, 0, 1, 2, 3, 4, 5, 6], [5]), ([6, 7, 0, 1, 2, 3, 4, 5, 6, 7], [6])])
def vtimer_Sleeps.B3 : List Nat := [0, 1, 0, 4, 15, 31, 31, 127, 255]
theorem vtimer_Sleeps.tab3 : rtab .any (opsOf Try.f15 3) = vtimer_Sleeps.T3 := by kernel_rfl
theorem vtimer_Sleeps.bits3 : waitsOk vtimer_Sleeps.T3.2 vtimer_Sleeps.B3 = true := by kernel_rfl
set_option maxHeartbeats 8000000 in
set_option maxRecDepth 100000 in
theorem vtimer_Sleeps.calls (k : Nat) (a0_0 : Int) (A0_1 : Option Addr) (c0_1 : Nat) (l0_1 : List (S88)) (A0_2 : Option Addr) (c0_2 : Nat) (l0_2 : List (S47)) (a1 : Int) (r1 : Int) (r2 : Bool) (w : World) (hr0_1 : Kd.C k88 w A0_1 l0_1.length l0_1) (hc0_1 : l0_1.length ≤ c0_1) (hr0_2 : Kd.C k47 w A0_2 l0_2.length l0_2) (hc0_2 : l0_2.length ≤ c0_2) (h : vtimer_Sleeps.f k a0_0 l0_1 l0_2 a1 = some (r1, r2)) :
 Calls Try.prog 15 #[.agg #[.int .i64 a0_0, .slice A0_1 l0_1.length c0_1, .slice A0_2 l0_2.length c0_2], .int .i64 a1] w fun e w' => e = .returned (.tuple #[.int .i64 r1, .bool r2]) ∧ Below w.heap.size w w' := by
 have hu27 := Try.underlying27
 have hu24 := Try.underlying24
 have HR0_1 := Aside0.mk hr0_1
 have HC0_1 := Aside0.mk hc0_1
 clear hr0_1 hc0_1
 have HR0_2 := Aside0.mk hr0_2
 have HC0_2 := Aside0.mk hc0_2
 clear hr0_2 hc0_2
 have HB := Aside0.mk (Below.refl w.heap.size w)
 have H : ((vtimer_Check.f k a0_0 l0_1 l0_2).bind fun t301 => (if t301 = 0 then ((vtimer_vcpu.f a1).bind fun t302 => (vtimer_Sleeps.j0 k a1 (!t302) a0_0 l0_1 l0_2)) else (vtimer_Sleeps.j0 k a1 true a0_0 l0_1 l0_2))) = some (r1, r2) := h
 clear h
 have HC3 := Aside0.mk H
 clear H
 go_enter Try.func15, Try.ntmps15
 go_upto_region 1 with (first | ((with_reducible refine gate_dst (N := 2) rfl ?_); refine box_ 2 27 #[.int .i64 a0_0, .slice A0_1 l0_1.length c0_1, .slice A0_2 l0_2.length c0_2] ?_; intro gb300 hg w4 hbox hb; have BK300 := Aside0.mk (hbox); have GW300 := G_ hg HB; have GE300 := G_ hg HB; replace HB := Ls_ HB hb; clear hb hbox hg))
 (try simp only [Act.put, List.setIfInBounds_toArray, List.set_cons_zero, List.set_cons_succ])
 go_cut [13] (fun v13 wc => ∃ (kq : Nat) (x13_2 : Bool), v13 = .bool x13_2 ∧ Aside0 (vtimer_Sleeps.j0 kq a1 x13_2 a0_0 l0_1 l0_2 = some (r1, r2)) ∧ Aside0 (kq ≤ k) ∧ Aside0 (wc.heap[gb300]? = some (.cells #[.int .i64 a0_0, (.slice A0_1 l0_1.length c0_1), (.slice A0_2 l0_2.length c0_2)] 27 (0, 0))) ∧ Aside0 (Below w.heap.size w wc))
 case first =>
  have H := HC3.out
  clear HC3
  replace H := Option.bind_eq_some_iff.mp H
  obtain ⟨t301, A50, H⟩ := H
  replace H : (if t301 = 0 then ((vtimer_vcpu.f a1).bind fun t302 => (vtimer_Sleeps.j0 k a1 (!t302) a0_0 l0_1 l0_2)) else (vtimer_Sleeps.j0 k a1 true a0_0 l0_1 l0_2)) = some (r1, r2) := H
  have A5 := Aside0.mk A50
  clear A50
  by_cases c6 : t301 = 0
  · rw [if_pos c6] at H
    have c6b0 : (t301 == 0) = true := beq_iff_eq.mpr c6
    have c6b1 : (t301 != 0) = false := bne_eq_false_iff_eq.mpr c6
    clear c6
    (first | rw [c6b0] | (simp only [i64_w, i32_w]; rw [c6b0]) | skip)
    replace H := Option.bind_eq_some_iff.mp H
    obtain ⟨t302, A70, H⟩ := H
    replace H : (vtimer_Sleeps.j0 k a1 (!t302) a0_0 l0_1 l0_2) = some (r1, r2) := H
    have A7 := Aside0.mk A70
    clear A70
    have H' := Aside0.mk H
    clear H
    have hcz8_0 : w4.cell? ⟨gb300, 0, none⟩ = some (.int .i64 a0_0) := (blk_cell BK300.out 0).trans rfl
    have hcz8_1 : w4.cell? ⟨gb300, 1, none⟩ = some (.slice A0_1 l0_1.length c0_1) := (blk_cell BK300.out 1).trans rfl
    have hcz8_2 : w4.cell? ⟨gb300, 2, none⟩ = some (.slice A0_2 l0_2.length c0_2) := (blk_cell BK300.out 2).trans rfl
    have hfz8_0 := blk_frozen BK300.out 0
    have hfz8_1 := blk_frozen BK300.out 1
    have hfz8_2 := blk_frozen BK300.out 2
    go_wp2_with (first | ((with_reducible refine gate_callee (f := 9) rfl ?_); refine goesL_ (some 7) rfl rfl Try.func9 (by kernel_rfl) rfl #[.agg #[.int .i64 a0_0, .slice A0_1 l0_1.length c0_1, .slice A0_2 l0_2.length c0_2]] rfl M_ ?_; (with_reducible refine (vtimer_Check.calls k a0_0 _ _ l0_1 _ _ l0_2 t301 _ ?side1 ?side2 ?side3 ?side4 A5.out).mono ?_); (case side1 => exact C_ HR0_1); (case side2 => exact HC0_1.out); (case side3 => exact C_ HR0_2); (case side4 => exact HC0_2.out); rintro e w9 ⟨rfl, hb⟩; refine ⟨_, rfl, ?_⟩; replace BK300 := Bb_ BK300 hb; replace HB := Ls_ HB hb; (try clear hb); (try clear hb2); (try clear hk); (try clear hi)) | (go_at_call 40; (with_reducible refine (vtimer_vcpu.calls a1 t302 _ A7.out).mono ?_); rintro e w' ⟨rfl, ⟨nd, rfl⟩⟩))
    go_meet
    case rel => exact ⟨_, (!t302), S_, H', ⟨by first | omega | exact Nat.le_refl _⟩, ⟨B_ BK300⟩, ⟨L_⟩⟩
  · rw [if_neg c6] at H
    have c6b0 : (t301 == 0) = false := beq_eq_false_iff_ne.mpr c6
    have c6b1 : (t301 != 0) = true := bne_iff_ne.mpr c6
    (first | rw [c6b0] | (simp only [i64_w, i32_w]; rw [c6b0]) | skip)
    have H' := Aside0.mk H
    clear H
    have hcz10_0 : w4.cell? ⟨gb300, 0, none⟩ = some (.int .i64 a0_0) := (blk_cell BK300.out 0).trans rfl
    have hcz10_1 : w4.cell? ⟨gb300, 1, none⟩ = some (.slice A0_1 l0_1.length c0_1) := (blk_cell BK300.out 1).trans rfl
    have hcz10_2 : w4.cell? ⟨gb300, 2, none⟩ = some (.slice A0_2 l0_2.length c0_2) := (blk_cell BK300.out 2).trans rfl
    have hfz10_0 := blk_frozen BK300.out 0
    have hfz10_1 := blk_frozen BK300.out 1
    have hfz10_2 := blk_frozen BK300.out 2
    go_wp2_with (first | ((with_reducible refine gate_callee (f := 9) rfl ?_); refine goesL_ (some 7) rfl rfl Try.func9 (by kernel_rfl) rfl #[.agg #[.int .i64 a0_0, .slice A0_1 l0_1.length c0_1, .slice A0_2 l0_2.length c0_2]] rfl M_ ?_; (with_reducible refine (vtimer_Check.calls k a0_0 _ _ l0_1 _ _ l0_2 t301 _ ?side1 ?side2 ?side3 ?side4 A5.out).mono ?_); (case side1 => exact C_ HR0_1); (case side2 => exact HC0_1.out); (case side3 => exact C_ HR0_2); (case side4 => exact HC0_2.out); rintro e w11 ⟨rfl, hb⟩; refine ⟨_, rfl, ?_⟩; replace BK300 := Bb_ BK300 hb; replace HB := Ls_ HB hb; (try clear hb); (try clear hb2); (try clear hk); (try clear hi)))
    go_meet
    case rel => exact ⟨_, (true), S_, H', ⟨by first | omega | exact Nat.le_refl _⟩, ⟨B_ BK300⟩, ⟨L_⟩⟩
 case rest =>
  clear HC3
  try clear c1; try clear p2; try clear c6; try clear c6b0; try clear c6b1; try clear c9; try clear hcz10_0; try clear hcz10_1; try clear hcz10_2; try clear hcz8_0; try clear hcz8_1; try clear hcz8_2; try clear hfz10_0; try clear hfz10_1; try clear hfz10_2; try clear hfz8_0; try clear hfz8_1; try clear hfz8_2
  obtain ⟨kq, x13_2, rfl, HA, HJ2, BK300, HB⟩ := hcut
  cases kq with
  | zero => exact absurd HA.out (by simp [vtimer_Sleeps.j0])
  | succ kj2 =>
   have H := HA.out
   clear HA
   simp only [vtimer_Sleeps.j0] at H
   by_cases c12 : x13_2 = true
   · subst c12
     have H1 : (some (0, false)) = some (r1, r2) := by rw [if_pos rfl] at H; exact H
     clear H
     have H := H1
     clear H1
     simp only [Option.some.injEq, Prod.mk.injEq] at H
     obtain ⟨rfl, rfl⟩ := H
     go_wp2
     go_ret2
     exact ⟨E_, L_⟩
   · replace c12 := Bool.eq_false_iff.mpr c12
     subst c12
     have H1 : ((vtimer_asleep.f a1).bind fun t303 => ((wheel_At.f a0_0 l0_1 t303).bind fun bt304 => (some (bt304.1, bt304.2)))) = some (r1, r2) := by rw [if_neg (show ¬ (false = true) by decide)] at H; exact H
     clear H
     have H := H1
     clear H1
     replace H := Option.bind_eq_some_iff.mp H
     obtain ⟨t303, A130, H⟩ := H
     replace H : ((wheel_At.f a0_0 l0_1 t303).bind fun bt304 => (some (bt304.1, bt304.2))) = some (r1, r2) := H
     have A13 := Aside0.mk A130
     clear A130
     replace H := Option.bind_eq_some_iff.mp H
     obtain ⟨⟨t304, t305⟩, A140, H⟩ := H
     replace H : (some (t304, t305)) = some (r1, r2) := H
     have A14 := Aside0.mk A140
     clear A140
     simp only [Option.some.injEq, Prod.mk.injEq] at H
     obtain ⟨rfl, rfl⟩ := H
     try go_wp2
     have n0_ := Aside0.mk (blk_drew BK300.out)
     have n1_ := Aside0.mk (below_drew1 HB.out)
     clear BK300
     clear HB
     have BK300 := n0_
     have HB := n1_
     clear n0_ n1_
     refine st_ 9 (fun w' => w'.cell? ⟨gb300, 0, none⟩ = some (.int .i64 a0_0) ∧ w'.cell? ⟨gb300, 1, none⟩ = some (.slice A0_1 l0_1.length c0_1) ∧ w'.cell? ⟨gb300, 2, none⟩ = some (.slice A0_2 l0_2.length c0_2)) [] ⟨(blk_cell BK300.out 0).trans rfl, (blk_cell BK300.out 1).trans rfl, (blk_cell BK300.out 2).trans rfl⟩ (fun hHeld => ?_); refine with_tabW vtimer_Sleeps.tab3 vtimer_Sleeps.bits3 (fun HT_ HW_ => ?_)
     generalize wc.drew = w15 at BK300 HB hHeld ⊢
     refine pu_ 0 14 HT_ ?_
     refine pu_ 2 16 HT_ ?_
     refine ta_ 1 15 HT_ HW_ rfl rfl hHeld (by rintro w' ⟨s0, s1, s2⟩; go_simp; with_reducible rfl) ?_
     refine on_ 3 17 HT_ rfl rfl (fun K hK => ?_)
     refine goes_ Try.func41 (by kernel_rfl) rfl #[.int .i64 a1] (by rfl) rfl rfl M_ ?_
     with_reducible refine (vtimer_asleep.calls a1 t303 _ A13.out).mono ?_
     rintro e w' ⟨rfl, ⟨nd, rfl⟩⟩
     refine ⟨_, rfl, ?_⟩
     refine hK.out _ _ ⟨(blk_cell BK300.out 0).trans rfl, (blk_cell BK300.out 1).trans rfl, (blk_cell BK300.out 2).trans rfl⟩ (fun hHeld => ?_)
     clear hK K
     refine nm_ 17 ?_
     refine on_ 4 18 HT_ rfl rfl (fun K hK => ?_)
     refine goes_ Try.func30 (by kernel_rfl) rfl #[.agg #[.int .i64 a0_0, .slice A0_1 l0_1.length c0_1], .int .i64 t303] (by rfl) rfl rfl M_ ?_
     with_reducible refine (wheel_At.calls a0_0 _ _ l0_1 t303 t304 t305 _ ?side1 ?side2 A14.out).mono ?_
     (case side1 => repeat (first | exact (Kd.C_below HR0_1.out L_) | (with_reducible refine Kd.C_alloc ?_ _) | (with_reducible refine Kd.C_drewN ?_ _) | (with_reducible refine Kd.C_drew ?_)))
     (case side2 => exact HC0_1.out)
     rintro e w16 ⟨rfl, hb⟩
     refine ⟨_, rfl, ?_⟩
     have n0_ := Bb_ BK300 hb
     have n1_ := Ls_ HB hb
     clear BK300
     clear HB
     have BK300 := n0_
     have HB := n1_
     clear n0_ n1_
     (try clear hb)
     (try clear hb2)
     (try clear hk)
     (try clear hi)
     refine hK.out _ _ ⟨(blk_cell BK300.out 0).trans rfl, (blk_cell BK300.out 1).trans rfl, (blk_cell BK300.out 2).trans rfl⟩ (fun hHeld => ?_)
     clear hK K
     refine nm_ 18 ?_
     refine pu_ 5 19 HT_ ?_
     refine pu_ 6 20 HT_ ?_
     refine pu_ 7 4 HT_ ?_
     refine pu_ 8 5 HT_ ?_
     refine done_ (done_of HT_.out (by kernel_rfl)) ?_
     try go_wp2
     go_ret2
     exact ⟨E_, L_⟩

/-! ### mainsheetref16_Vcpu: function 47 -/
/-! ### mainsheetref18_Alarm: function 42 -/
end Go.Proofs.Ytlddekjlmkimnaa.C
end
section
-- Written by a program of this session (wip/tools/stub.py, over the kit's print) and by hand; not the kit's print.
namespace Go.Proofs.Ytlddekjlmkimnaa.C
open Go.RowKit Go.Proofs.YtlddekjlmkimnaaW.PrintWords Go.Proofs.YtlddekjlmkimnaaW.PrintLast Go.Proofs.YtlddekjlmkimnaaW.PrintMore
attribute [local go_sem] max2_int min2_int max_two min_two max_three min_three max_four min_four   -- for this text's walks alone
set_option linter.unusedVariables false
set_option linter.unusedSimpArgs false

/-! ### mainsheetref18_Right: function 16 -/
end Go.Proofs.Ytlddekjlmkimnaa.C
end
