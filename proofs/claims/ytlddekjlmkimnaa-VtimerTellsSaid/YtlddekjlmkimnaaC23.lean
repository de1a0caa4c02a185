import Derived.Test.YtlddekjlmkimnaaJ5
import Derived.Test.YtlddekjlmkimnaaJ6
-- Written by a program of this session (wip/tools/stub.py, over the kit's print) and by hand; not the kit's print.
namespace Go.Proofs.Ytlddekjlmkimnaa.C
open Go.RowKit Go.Proofs.YtlddekjlmkimnaaW.PrintWords Go.Proofs.YtlddekjlmkimnaaW.PrintLast Go.Proofs.YtlddekjlmkimnaaW.PrintMore
attribute [local go_sem] max2_int min2_int max_two min_two max_three min_three max_four min_four   -- for this text's walks alone
set_option linter.unusedVariables false
set_option linter.unusedSimpArgs false

/-! ### mainsheetref15_Right: function 43 -/
mutual
def mainsheetref15_Right.j0 : Nat → Bool → Int → List (S88) → Option (Bool)
 | 0, _, _, _ => none
 | k + 1, x18, x311000, x311001 => if x18 = true then (some false) else (mainsheetref15_Right.l0 k 0 x311000 x311001)
def mainsheetref15_Right.l0 : Nat → Int → Int → List (S88) → Option (Bool)
 | 0, _, _, _ => none
 | k + 1, x3, x311000, x311001 => if x3 < (x311001.length : Int) then (if 0 ≤ x3 then (if ((rd_T88 x311001 x3).f0) < 0 then (some false) else (if ((rd_T88 x311001 x3).f0) > 31 then (some false) else (if ((rd_T88 x311001 x3).f1) ≤ x311000 then (some false) else (if ((rd_T88 x311001 x3).f1) > 1125899906842624 then (some false) else (if x3 > 0 then (if 0 ≤ (wrap64 (x3 - 1)) then (if (wrap64 (x3 - 1)) < (x311001.length : Int) then (if ((rd_T88 x311001 (wrap64 (x3 - 1))).f0) ≥ ((rd_T88 x311001 x3).f0) then (some false) else (mainsheetref15_Right.l0 k (wrap64 (x3 + 1)) x311000 x311001)) else (none)) else (none)) else (mainsheetref15_Right.l0 k (wrap64 (x3 + 1)) x311000 x311001)))))) else (none)) else (some true)
end
def mainsheetref15_Right.f (k : Nat) (a0_0 : Int) (l0_1 : List (S88)) : Option (Bool) := if a0_0 < 0 then (mainsheetref15_Right.j0 k true a0_0 l0_1) else (if a0_0 > 1125899906842624 then (mainsheetref15_Right.j0 k true a0_0 l0_1) else (mainsheetref15_Right.j0 k (decide ((l0_1.length : Int) > 32)) a0_0 l0_1))
theorem mainsheetref15_Right.mono_l : ∀ k, (∀ y0 y1 y2, LeO (mainsheetref15_Right.j0 k y0 y1 y2) (mainsheetref15_Right.j0 (k + 1) y0 y1 y2)) ∧ (∀ y0 y1 y2, LeO (mainsheetref15_Right.l0 k y0 y1 y2) (mainsheetref15_Right.l0 (k + 1) y0 y1 y2))
 | 0 => ⟨fun _ _ _ r h => by simp [mainsheetref15_Right.j0] at h, fun _ _ _ r h => by simp [mainsheetref15_Right.l0] at h⟩
 | k + 1 => by
  obtain ⟨ih0, ih1⟩ := mainsheetref15_Right.mono_l k
  refine ⟨?_, ?_⟩
  · intro y0 y1 y2
    unfold mainsheetref15_Right.j0
    repeat' first
    | (with_reducible exact ih0 _ _ _)
    | (with_reducible exact ih1 _ _ _)
    | (with_reducible exact LeO.refl _)
    | (with_reducible exact LeO.none _)
    | (with_reducible refine LeO.ite ?_ ?_)
    | (with_reducible refine LeO.bind ?_ (fun _ => ?_))
    | exact ih0 _ _ _
    | exact ih1 _ _ _
    | exact LeO.none _
    | refine LeO.ite ?_ ?_
    | refine LeO.bind ?_ (fun _ => ?_)
  · intro y0 y1 y2
    unfold mainsheetref15_Right.l0
    repeat' first
    | (with_reducible exact ih0 _ _ _)
    | (with_reducible exact ih1 _ _ _)
    | (with_reducible exact LeO.refl _)
    | (with_reducible exact LeO.none _)
    | (with_reducible refine LeO.ite ?_ ?_)
    | (with_reducible refine LeO.bind ?_ (fun _ => ?_))
    | exact ih0 _ _ _
    | exact ih1 _ _ _
    | exact LeO.none _
    | refine LeO.ite ?_ ?_
    | refine LeO.bind ?_ (fun _ => ?_)
theorem mainsheetref15_Right.mono : ∀ a0 a1 k, LeO (mainsheetref15_Right.f k a0 a1) (mainsheetref15_Right.f (k + 1) a0 a1) := by
 intro a0 a1 k
 obtain ⟨ih0, ih1⟩ := mainsheetref15_Right.mono_l k
 unfold mainsheetref15_Right.f
 repeat' first
  | (with_reducible exact ih0 _ _ _)
  | (with_reducible exact ih1 _ _ _)
  | (with_reducible exact LeO.refl _)
  | (with_reducible exact LeO.none _)
  | (with_reducible refine LeO.ite ?_ ?_)
  | (with_reducible refine LeO.bind ?_ (fun _ => ?_))
  | exact ih0 _ _ _
  | exact ih1 _ _ _
  | exact LeO.none _
  | refine LeO.ite ?_ ?_
  | refine LeO.bind ?_ (fun _ => ?_)
set_option maxHeartbeats 8000000 in
set_option maxRecDepth 100000 in
theorem mainsheetref15_Right.calls (k : Nat) (a0_0 : Int) (A0_1 : Option Addr) (c0_1 : Nat) (l0_1 : List (S88)) (r : Bool) (w : World) (hr0_1 : Kd.C k88 w A0_1 l0_1.length l0_1) (hc0_1 : l0_1.length ≤ c0_1) (h : mainsheetref15_Right.f k a0_0 l0_1 = some r) :
 Calls Try.prog 43 #[.agg #[.int .i64 a0_0, .slice A0_1 l0_1.length c0_1]] w fun e w' => e = .returned (.bool r) ∧ Below w.heap.size w w' := by
 have hu24 := Try.underlying24
 have hu88 := Try.underlying88
 have HR0_1 := Aside0.mk hr0_1
 have HC0_1 := Aside0.mk hc0_1
 clear hr0_1 hc0_1
 have HB := Aside0.mk (Below.refl w.heap.size w)
 have H : (if a0_0 < 0 then (mainsheetref15_Right.j0 k true a0_0 l0_1) else (if a0_0 > 1125899906842624 then (mainsheetref15_Right.j0 k true a0_0 l0_1) else (mainsheetref15_Right.j0 k (decide ((l0_1.length : Int) > 32)) a0_0 l0_1))) = some r := h
 clear h
 have HC2 := Aside0.mk H
 clear H
 go_enter Try.func43, Try.ntmps43
 go_upto_region 1 with (first | ((with_reducible refine gate_dst (N := 1) rfl ?_); (try (refine gate_guard (by rfl) ?_; dsimp only)); refine box_ 1 24 #[.int .i64 a0_0, .slice A0_1 l0_1.length c0_1] ?_; intro gb310 hg w3 hbox hb; have BK310 := Aside0.mk (hbox); have GW310 := G_ hg HB; have GE310 := G_ hg HB; replace HB := Ls_ HB hb; clear hb hbox hg))
 repeat (go_quiet (first | ((with_reducible refine gate_dst (N := 1) rfl ?_); (try (refine gate_guard (by rfl) ?_; dsimp only)); refine box_ 1 24 #[.int .i64 a0_0, .slice A0_1 l0_1.length c0_1] ?_; intro gb310 hg w3 hbox hb; have BK310 := Aside0.mk (hbox); have GW310 := G_ hg HB; have GE310 := G_ hg HB; replace HB := Ls_ HB hb; clear hb hbox hg)); go_upto_region 1 with (first | ((with_reducible refine gate_dst (N := 1) rfl ?_); (try (refine gate_guard (by rfl) ?_; dsimp only)); refine box_ 1 24 #[.int .i64 a0_0, .slice A0_1 l0_1.length c0_1] ?_; intro gb310 hg w3 hbox hb; have BK310 := Aside0.mk (hbox); have GW310 := G_ hg HB; have GE310 := G_ hg HB; replace HB := Ls_ HB hb; clear hb hbox hg)))
 (try simp only [Act.put, List.setIfInBounds_toArray, List.set_cons_zero, List.set_cons_succ])
 go_cut [18] (fun v18 wc => ∃ (kq : Nat) (x18_1 : Bool), v18 = .bool x18_1 ∧ Aside0 (mainsheetref15_Right.j0 kq x18_1 a0_0 l0_1 = some r) ∧ Aside0 (kq ≤ k) ∧ Aside0 (wc.heap[gb310]? = some (.cells #[.int .i64 a0_0, (.slice A0_1 l0_1.length c0_1)] 24 (0, 0))) ∧ Aside0 (Below w.heap.size w wc))
 case first =>
  have H := HC2.out
  clear HC2
  by_cases c4 : a0_0 < 0
  · rw [if_pos c4] at H
    have c4b0 : decide (a0_0 < 0) = true := decide_eq_true c4
    clear c4
    (first | rw [c4b0] | (simp only [i64_w, i32_w]; rw [c4b0]) | skip)
    have H' := Aside0.mk H
    clear H
    have hcz5_0 : w3.cell? ⟨gb310, 0, none⟩ = some (.int .i64 a0_0) := (blk_cell BK310.out 0).trans rfl
    have hcz5_1 : w3.cell? ⟨gb310, 1, none⟩ = some (.slice A0_1 l0_1.length c0_1) := (blk_cell BK310.out 1).trans rfl
    have hfz5_0 := blk_frozen BK310.out 0
    have hfz5_1 := blk_frozen BK310.out 1
    go_wp2
    repeat (go_quiet (fail); try go_wp2)
    go_meet
    case rel => exact ⟨_, (true), S_, H', ⟨by first | omega | exact Nat.le_refl _⟩, ⟨B_ BK310⟩, ⟨L_⟩⟩
  · rw [if_neg c4] at H
    have c4b0 : decide (a0_0 < 0) = false := decide_eq_false c4
    clear c4
    (first | rw [c4b0] | (simp only [i64_w, i32_w]; rw [c4b0]) | skip)
    by_cases c6 : a0_0 > 1125899906842624
    · rw [if_pos c6] at H
      have c6b0 : decide (1125899906842624 < a0_0) = true := decide_eq_true c6
      clear c6
      have H' := Aside0.mk H
      clear H
      have hcz7_0 : w3.cell? ⟨gb310, 0, none⟩ = some (.int .i64 a0_0) := (blk_cell BK310.out 0).trans rfl
      have hcz7_1 : w3.cell? ⟨gb310, 1, none⟩ = some (.slice A0_1 l0_1.length c0_1) := (blk_cell BK310.out 1).trans rfl
      have hfz7_0 := blk_frozen BK310.out 0
      have hfz7_1 := blk_frozen BK310.out 1
      go_wp2
      repeat (go_quiet (fail); try go_wp2)
      go_meet
      case rel => exact ⟨_, (true), S_, H', ⟨by first | omega | exact Nat.le_refl _⟩, ⟨B_ BK310⟩, ⟨L_⟩⟩
    · rw [if_neg c6] at H
      have c6b0 : decide (1125899906842624 < a0_0) = false := decide_eq_false c6
      clear c6
      have H' := Aside0.mk H
      clear H
      have hcz8_0 : w3.cell? ⟨gb310, 0, none⟩ = some (.int .i64 a0_0) := (blk_cell BK310.out 0).trans rfl
      have hcz8_1 : w3.cell? ⟨gb310, 1, none⟩ = some (.slice A0_1 l0_1.length c0_1) := (blk_cell BK310.out 1).trans rfl
      have hfz8_0 := blk_frozen BK310.out 0
      have hfz8_1 := blk_frozen BK310.out 1
      go_wp2
      repeat (go_quiet (fail); try go_wp2)
      go_meet
      case rel => exact ⟨_, (decide ((l0_1.length : Int) > 32)), S_, H', ⟨by first | omega | exact Nat.le_refl _⟩, ⟨B_ BK310⟩, ⟨L_⟩⟩
 case rest =>
  clear HC2
  try clear p2; try clear c4; try clear c4b0; try clear c6; try clear c6b0; try clear hcz5_0; try clear hcz5_1; try clear hcz7_0; try clear hcz7_1; try clear hcz8_0; try clear hcz8_1; try clear hfz5_0; try clear hfz5_1; try clear hfz7_0; try clear hfz7_1; try clear hfz8_0; try clear hfz8_1
  obtain ⟨kq, x18_1, rfl, HA, HJ1, BK310, HB⟩ := hcut
  cases kq with
  | zero => exact absurd HA.out (by simp [mainsheetref15_Right.j0])
  | succ kj1 =>
   have H := HA.out
   clear HA
   simp only [mainsheetref15_Right.j0] at H
   by_cases c9 : x18_1 = true
   · subst c9
     have H1 : (some false) = some r := by rw [if_pos rfl] at H; exact H
     clear H
     have H := H1
     clear H1
     obtain rfl := Option.some.inj H
     go_wp2
     repeat (go_quiet (fail); try go_wp2)
     go_ret
     exact ⟨E_, L_⟩
   · replace c9 := Bool.eq_false_iff.mpr c9
     subst c9
     have H1 : (mainsheetref15_Right.l0 kj1 0 a0_0 l0_1) = some r := by rw [if_neg (show ¬ (false = true) by decide)] at H; exact H
     clear H
     have H := H1
     clear H1
     have H' := Aside0.mk H
     clear H
     go_wp2
     repeat (go_quiet (fail); try go_wp2)
     go_loopg [3] kj1 (fun kq v3 w' => ∃ (x3_2 : Int), v3 = .int .i64 x3_2 ∧ Aside0 (mainsheetref15_Right.l0 kq x3_2 a0_0 l0_1 = some r) ∧ Aside0 (kq ≤ kj1) ∧ Aside0 (w'.heap[gb310]? = some (.cells #[.int .i64 a0_0, (.slice A0_1 l0_1.length c0_1)] 24 (0, 0))) ∧ Aside0 (Below w.heap.size w w'))
     case atStart => exact ⟨(0), S_, H', ⟨Nat.le_refl _⟩, ⟨B_ BK310⟩, ⟨L_⟩⟩
     case round =>
      clear H'
      try clear p2; try clear c4; try clear c4b0; try clear c6; try clear c6b0; try clear c9; try clear hcz5_0; try clear hcz5_1; try clear hcz7_0; try clear hcz7_1; try clear hcz8_0; try clear hcz8_1; try clear hfz5_0; try clear hfz5_1; try clear hfz7_0; try clear hfz7_1; try clear hfz8_0; try clear hfz8_1; try clear p2
      obtain ⟨x3_2, rfl, HA, HK2, BK310, HB⟩ := hrel
      cases gk with
      | zero => exact absurd HA.out (by simp [mainsheetref15_Right.l0])
      | succ k2 =>
       have H := HA.out
       clear HA
       simp only [mainsheetref15_Right.l0] at H
       by_cases c10 : x3_2 < (l0_1.length : Int)
       · rw [if_pos c10] at H
         have c10b0 : decide (x3_2 < (l0_1.length : Int)) = true := decide_eq_true c10
         clear c10
         by_cases c11 : 0 ≤ x3_2
         · rw [if_pos c11] at H
           have c11b0 : decide (0 ≤ x3_2) = true := decide_eq_true c11
           clear c11
           by_cases c12 : ((rd_T88 l0_1 x3_2).f0) < 0
           · rw [if_pos c12] at H
             have c12b0 : decide (((rd_T88 l0_1 x3_2).f0) < 0) = true := decide_eq_true c12
             clear c12
             obtain rfl := Option.some.inj H
             have hcz13_0 : wr.cell? ⟨gb310, 0, none⟩ = some (.int .i64 a0_0) := (blk_cell BK310.out 0).trans rfl
             have hcz13_1 : wr.cell? ⟨gb310, 1, none⟩ = some (.slice A0_1 l0_1.length c0_1) := (blk_cell BK310.out 1).trans rfl
             have hfz13_0 := blk_frozen BK310.out 0
             have hfz13_1 := blk_frozen BK310.out 1
             have p311 : 0 ≤ (x3_2 : Int) := of_decide_eq_true As_
             have q311 : x3_2 < (l0_1.length : Int) := of_decide_eq_true As_
             obtain ⟨ad311, e311, hx311_0, hx311_1⟩ := at_T88 HR0_1.out x3_2 p311 q311
             cases e311
             replace hx311_0 := Hx_ HB hx311_0
             replace hx311_1 := Hx_ HB hx311_1
             replace p311 := eq_true p311
             replace q311 := eq_true q311
             go_wp2_with (first | ((with_reducible refine gate_dst (N := 4) rfl ?_); (try (refine gate_guard (by rfl) ?_; dsimp only)); refine box_ 4 88 #[.int .i64 0, .int .i64 0] ?_; intro gb312 hg w14 hbox hb; have BK312 := Aside0.mk (hbox); have GW312 := G_ hg HB; have GE312 := G_ hg HB; have NB310_312 := Nl_ hg BK310; have NB312_310 := Ng_ hg BK310; replace BK310 := Bb_ BK310 hb; replace HB := Ls_ HB hb; clear hb hbox hg; have hnb15 := NB312_310.out; have hnc15 := NB310_312.out; have hcz16_0 : w14.cell? ⟨gb312, 0, none⟩ = some (.int .i64 0) := (blk_cell BK312.out 0).trans rfl; have hcz16_1 : w14.cell? ⟨gb312, 1, none⟩ = some (.int .i64 0) := (blk_cell BK312.out 1).trans rfl; have hfz16_0 := blk_frozen BK312.out 0; have hfz16_1 := blk_frozen BK312.out 1))
             repeat (go_quiet (first | ((with_reducible refine gate_dst (N := 4) rfl ?_); (try (refine gate_guard (by rfl) ?_; dsimp only)); refine box_ 4 88 #[.int .i64 0, .int .i64 0] ?_; intro gb312 hg w14 hbox hb; have BK312 := Aside0.mk (hbox); have GW312 := G_ hg HB; have GE312 := G_ hg HB; have NB310_312 := Nl_ hg BK310; have NB312_310 := Ng_ hg BK310; replace BK310 := Bb_ BK310 hb; replace HB := Ls_ HB hb; clear hb hbox hg; have hnb15 := NB312_310.out; have hnc15 := NB310_312.out; have hcz16_0 : w14.cell? ⟨gb312, 0, none⟩ = some (.int .i64 0) := (blk_cell BK312.out 0).trans rfl; have hcz16_1 : w14.cell? ⟨gb312, 1, none⟩ = some (.int .i64 0) := (blk_cell BK312.out 1).trans rfl; have hfz16_0 := blk_frozen BK312.out 0; have hfz16_1 := blk_frozen BK312.out 1)); try go_wp2_with (first | ((with_reducible refine gate_dst (N := 4) rfl ?_); (try (refine gate_guard (by rfl) ?_; dsimp only)); refine box_ 4 88 #[.int .i64 0, .int .i64 0] ?_; intro gb312 hg w14 hbox hb; have BK312 := Aside0.mk (hbox); have GW312 := G_ hg HB; have GE312 := G_ hg HB; have NB310_312 := Nl_ hg BK310; have NB312_310 := Ng_ hg BK310; replace BK310 := Bb_ BK310 hb; replace HB := Ls_ HB hb; clear hb hbox hg; have hnb15 := NB312_310.out; have hnc15 := NB310_312.out; have hcz16_0 : w14.cell? ⟨gb312, 0, none⟩ = some (.int .i64 0) := (blk_cell BK312.out 0).trans rfl; have hcz16_1 : w14.cell? ⟨gb312, 1, none⟩ = some (.int .i64 0) := (blk_cell BK312.out 1).trans rfl; have hfz16_0 := blk_frozen BK312.out 0; have hfz16_1 := blk_frozen BK312.out 1)))
             go_ret
             exact ⟨E_, L_⟩
           · rw [if_neg c12] at H
             have c12b0 : decide (((rd_T88 l0_1 x3_2).f0) < 0) = false := decide_eq_false c12
             clear c12
             by_cases c17 : ((rd_T88 l0_1 x3_2).f0) > 31
             · rw [if_pos c17] at H
               have c17b0 : decide (31 < ((rd_T88 l0_1 x3_2).f0)) = true := decide_eq_true c17
               clear c17
               obtain rfl := Option.some.inj H
               have hcz18_0 : wr.cell? ⟨gb310, 0, none⟩ = some (.int .i64 a0_0) := (blk_cell BK310.out 0).trans rfl
               have hcz18_1 : wr.cell? ⟨gb310, 1, none⟩ = some (.slice A0_1 l0_1.length c0_1) := (blk_cell BK310.out 1).trans rfl
               have hfz18_0 := blk_frozen BK310.out 0
               have hfz18_1 := blk_frozen BK310.out 1
               have p311 : 0 ≤ (x3_2 : Int) := of_decide_eq_true As_
               have q311 : x3_2 < (l0_1.length : Int) := of_decide_eq_true As_
               obtain ⟨ad311, e311, hx311_0, hx311_1⟩ := at_T88 HR0_1.out x3_2 p311 q311
               cases e311
               replace hx311_0 := Hx_ HB hx311_0
               replace hx311_1 := Hx_ HB hx311_1
               replace p311 := eq_true p311
               replace q311 := eq_true q311
               go_wp2_with (first | ((with_reducible refine gate_dst (N := 4) rfl ?_); (try (refine gate_guard (by rfl) ?_; dsimp only)); refine box_ 4 88 #[.int .i64 0, .int .i64 0] ?_; intro gb312 hg w19 hbox hb; have BK312 := Aside0.mk (hbox); have GW312 := G_ hg HB; have GE312 := G_ hg HB; have NB310_312 := Nl_ hg BK310; have NB312_310 := Ng_ hg BK310; replace BK310 := Bb_ BK310 hb; replace HB := Ls_ HB hb; clear hb hbox hg; have hnb20 := NB312_310.out; have hnc20 := NB310_312.out; have hcz21_0 : w19.cell? ⟨gb312, 0, none⟩ = some (.int .i64 0) := (blk_cell BK312.out 0).trans rfl; have hcz21_1 : w19.cell? ⟨gb312, 1, none⟩ = some (.int .i64 0) := (blk_cell BK312.out 1).trans rfl; have hfz21_0 := blk_frozen BK312.out 0; have hfz21_1 := blk_frozen BK312.out 1))
               repeat (go_quiet (first | ((with_reducible refine gate_dst (N := 4) rfl ?_); (try (refine gate_guard (by rfl) ?_; dsimp only)); refine box_ 4 88 #[.int .i64 0, .int .i64 0] ?_; intro gb312 hg w19 hbox hb; have BK312 := Aside0.mk (hbox); have GW312 := G_ hg HB; have GE312 := G_ hg HB; have NB310_312 := Nl_ hg BK310; have NB312_310 := Ng_ hg BK310; replace BK310 := Bb_ BK310 hb; replace HB := Ls_ HB hb; clear hb hbox hg; have hnb20 := NB312_310.out; have hnc20 := NB310_312.out; have hcz21_0 : w19.cell? ⟨gb312, 0, none⟩ = some (.int .i64 0) := (blk_cell BK312.out 0).trans rfl; have hcz21_1 : w19.cell? ⟨gb312, 1, none⟩ = some (.int .i64 0) := (blk_cell BK312.out 1).trans rfl; have hfz21_0 := blk_frozen BK312.out 0; have hfz21_1 := blk_frozen BK312.out 1)); try go_wp2_with (first | ((with_reducible refine gate_dst (N := 4) rfl ?_); (try (refine gate_guard (by rfl) ?_; dsimp only)); refine box_ 4 88 #[.int .i64 0, .int .i64 0] ?_; intro gb312 hg w19 hbox hb; have BK312 := Aside0.mk (hbox); have GW312 := G_ hg HB; have GE312 := G_ hg HB; have NB310_312 := Nl_ hg BK310; have NB312_310 := Ng_ hg BK310; replace BK310 := Bb_ BK310 hb; replace HB := Ls_ HB hb; clear hb hbox hg; have hnb20 := NB312_310.out; have hnc20 := NB310_312.out; have hcz21_0 : w19.cell? ⟨gb312, 0, none⟩ = some (.int .i64 0) := (blk_cell BK312.out 0).trans rfl; have hcz21_1 : w19.cell? ⟨gb312, 1, none⟩ = some (.int .i64 0) := (blk_cell BK312.out 1).trans rfl; have hfz21_0 := blk_frozen BK312.out 0; have hfz21_1 := blk_frozen BK312.out 1)))
               go_ret
               exact ⟨E_, L_⟩
             · rw [if_neg c17] at H
               have c17b0 : decide (31 < ((rd_T88 l0_1 x3_2).f0)) = false := decide_eq_false c17
               clear c17
               by_cases c22 : ((rd_T88 l0_1 x3_2).f1) ≤ a0_0
               · rw [if_pos c22] at H
                 have c22b0 : decide (((rd_T88 l0_1 x3_2).f1) ≤ a0_0) = true := decide_eq_true c22
                 clear c22
                 obtain rfl := Option.some.inj H
                 have hcz23_0 : wr.cell? ⟨gb310, 0, none⟩ = some (.int .i64 a0_0) := (blk_cell BK310.out 0).trans rfl
                 have hcz23_1 : wr.cell? ⟨gb310, 1, none⟩ = some (.slice A0_1 l0_1.length c0_1) := (blk_cell BK310.out 1).trans rfl
                 have hfz23_0 := blk_frozen BK310.out 0
                 have hfz23_1 := blk_frozen BK310.out 1
                 have p311 : 0 ≤ (x3_2 : Int) := of_decide_eq_true As_
                 have q311 : x3_2 < (l0_1.length : Int) := of_decide_eq_true As_
                 obtain ⟨ad311, e311, hx311_0, hx311_1⟩ := at_T88 HR0_1.out x3_2 p311 q311
                 cases e311
                 replace hx311_0 := Hx_ HB hx311_0
                 replace hx311_1 := Hx_ HB hx311_1
                 replace p311 := eq_true p311
                 replace q311 := eq_true q311
                 go_wp2_with (first | ((with_reducible refine gate_dst (N := 4) rfl ?_); (try (refine gate_guard (by rfl) ?_; dsimp only)); refine box_ 4 88 #[.int .i64 0, .int .i64 0] ?_; intro gb312 hg w24 hbox hb; have BK312 := Aside0.mk (hbox); have GW312 := G_ hg HB; have GE312 := G_ hg HB; have NB310_312 := Nl_ hg BK310; have NB312_310 := Ng_ hg BK310; replace BK310 := Bb_ BK310 hb; replace HB := Ls_ HB hb; clear hb hbox hg; have hnb25 := NB312_310.out; have hnc25 := NB310_312.out; have hcz26_0 : w24.cell? ⟨gb312, 0, none⟩ = some (.int .i64 0) := (blk_cell BK312.out 0).trans rfl; have hcz26_1 : w24.cell? ⟨gb312, 1, none⟩ = some (.int .i64 0) := (blk_cell BK312.out 1).trans rfl; have hfz26_0 := blk_frozen BK312.out 0; have hfz26_1 := blk_frozen BK312.out 1; have hcz27_0 : w24.cell? ⟨gb310, 0, none⟩ = some (.int .i64 a0_0) := (blk_cell BK310.out 0).trans rfl; have hcz27_1 : w24.cell? ⟨gb310, 1, none⟩ = some (.slice (some ad311) l0_1.length c0_1) := (blk_cell BK310.out 1).trans rfl; have hfz27_0 := blk_frozen BK310.out 0; have hfz27_1 := blk_frozen BK310.out 1))
                 repeat (go_quiet (first | ((with_reducible refine gate_dst (N := 4) rfl ?_); (try (refine gate_guard (by rfl) ?_; dsimp only)); refine box_ 4 88 #[.int .i64 0, .int .i64 0] ?_; intro gb312 hg w24 hbox hb; have BK312 := Aside0.mk (hbox); have GW312 := G_ hg HB; have GE312 := G_ hg HB; have NB310_312 := Nl_ hg BK310; have NB312_310 := Ng_ hg BK310; replace BK310 := Bb_ BK310 hb; replace HB := Ls_ HB hb; clear hb hbox hg; have hnb25 := NB312_310.out; have hnc25 := NB310_312.out; have hcz26_0 : w24.cell? ⟨gb312, 0, none⟩ = some (.int .i64 0) := (blk_cell BK312.out 0).trans rfl; have hcz26_1 : w24.cell? ⟨gb312, 1, none⟩ = some (.int .i64 0) := (blk_cell BK312.out 1).trans rfl; have hfz26_0 := blk_frozen BK312.out 0; have hfz26_1 := blk_frozen BK312.out 1; have hcz27_0 : w24.cell? ⟨gb310, 0, none⟩ = some (.int .i64 a0_0) := (blk_cell BK310.out 0).trans rfl; have hcz27_1 : w24.cell? ⟨gb310, 1, none⟩ = some (.slice (some ad311) l0_1.length c0_1) := (blk_cell BK310.out 1).trans rfl; have hfz27_0 := blk_frozen BK310.out 0; have hfz27_1 := blk_frozen BK310.out 1)); try go_wp2_with (first | ((with_reducible refine gate_dst (N := 4) rfl ?_); (try (refine gate_guard (by rfl) ?_; dsimp only)); refine box_ 4 88 #[.int .i64 0, .int .i64 0] ?_; intro gb312 hg w24 hbox hb; have BK312 := Aside0.mk (hbox); have GW312 := G_ hg HB; have GE312 := G_ hg HB; have NB310_312 := Nl_ hg BK310; have NB312_310 := Ng_ hg BK310; replace BK310 := Bb_ BK310 hb; replace HB := Ls_ HB hb; clear hb hbox hg; have hnb25 := NB312_310.out; have hnc25 := NB310_312.out; have hcz26_0 : w24.cell? ⟨gb312, 0, none⟩ = some (.int .i64 0) := (blk_cell BK312.out 0).trans rfl; have hcz26_1 : w24.cell? ⟨gb312, 1, none⟩ = some (.int .i64 0) := (blk_cell BK312.out 1).trans rfl; have hfz26_0 := blk_frozen BK312.out 0; have hfz26_1 := blk_frozen BK312.out 1; have hcz27_0 : w24.cell? ⟨gb310, 0, none⟩ = some (.int .i64 a0_0) := (blk_cell BK310.out 0).trans rfl; have hcz27_1 : w24.cell? ⟨gb310, 1, none⟩ = some (.slice (some ad311) l0_1.length c0_1) := (blk_cell BK310.out 1).trans rfl; have hfz27_0 := blk_frozen BK310.out 0; have hfz27_1 := blk_frozen BK310.out 1)))
                 go_ret
                 exact ⟨E_, L_⟩
               · rw [if_neg c22] at H
                 have c22b0 : decide (((rd_T88 l0_1 x3_2).f1) ≤ a0_0) = false := decide_eq_false c22
                 clear c22
                 by_cases c28 : ((rd_T88 l0_1 x3_2).f1) > 1125899906842624
                 · rw [if_pos c28] at H
                   have c28b0 : decide (1125899906842624 < ((rd_T88 l0_1 x3_2).f1)) = true := decide_eq_true c28
                   clear c28
                   obtain rfl := Option.some.inj H
                   have hcz29_0 : wr.cell? ⟨gb310, 0, none⟩ = some (.int .i64 a0_0) := (blk_cell BK310.out 0).trans rfl
                   have hcz29_1 : wr.cell? ⟨gb310, 1, none⟩ = some (.slice A0_1 l0_1.length c0_1) := (blk_cell BK310.out 1).trans rfl
                   have hfz29_0 := blk_frozen BK310.out 0
                   have hfz29_1 := blk_frozen BK310.out 1
                   have p311 : 0 ≤ (x3_2 : Int) := of_decide_eq_true As_
                   have q311 : x3_2 < (l0_1.length : Int) := of_decide_eq_true As_
                   obtain ⟨ad311, e311, hx311_0, hx311_1⟩ := at_T88 HR0_1.out x3_2 p311 q311
                   cases e311
                   replace hx311_0 := Hx_ HB hx311_0
                   replace hx311_1 := Hx_ HB hx311_1
                   replace p311 := eq_true p311
                   replace q311 := eq_true q311
                   go_wp2_with (first | ((with_reducible refine gate_dst (N := 4) rfl ?_); (try (refine gate_guard (by rfl) ?_; dsimp only)); refine box_ 4 88 #[.int .i64 0, .int .i64 0] ?_; intro gb312 hg w30 hbox hb; have BK312 := Aside0.mk (hbox); have GW312 := G_ hg HB; have GE312 := G_ hg HB; have NB310_312 := Nl_ hg BK310; have NB312_310 := Ng_ hg BK310; replace BK310 := Bb_ BK310 hb; replace HB := Ls_ HB hb; clear hb hbox hg; have hnb31 := NB312_310.out; have hnc31 := NB310_312.out; have hcz32_0 : w30.cell? ⟨gb312, 0, none⟩ = some (.int .i64 0) := (blk_cell BK312.out 0).trans rfl; have hcz32_1 : w30.cell? ⟨gb312, 1, none⟩ = some (.int .i64 0) := (blk_cell BK312.out 1).trans rfl; have hfz32_0 := blk_frozen BK312.out 0; have hfz32_1 := blk_frozen BK312.out 1; have hcz33_0 : w30.cell? ⟨gb310, 0, none⟩ = some (.int .i64 a0_0) := (blk_cell BK310.out 0).trans rfl; have hcz33_1 : w30.cell? ⟨gb310, 1, none⟩ = some (.slice (some ad311) l0_1.length c0_1) := (blk_cell BK310.out 1).trans rfl; have hfz33_0 := blk_frozen BK310.out 0; have hfz33_1 := blk_frozen BK310.out 1))
                   repeat (go_quiet (first | ((with_reducible refine gate_dst (N := 4) rfl ?_); (try (refine gate_guard (by rfl) ?_; dsimp only)); refine box_ 4 88 #[.int .i64 0, .int .i64 0] ?_; intro gb312 hg w30 hbox hb; have BK312 := Aside0.mk (hbox); have GW312 := G_ hg HB; have GE312 := G_ hg HB; have NB310_312 := Nl_ hg BK310; have NB312_310 := Ng_ hg BK310; replace BK310 := Bb_ BK310 hb; replace HB := Ls_ HB hb; clear hb hbox hg; have hnb31 := NB312_310.out; have hnc31 := NB310_312.out; have hcz32_0 : w30.cell? ⟨gb312, 0, none⟩ = some (.int .i64 0) := (blk_cell BK312.out 0).trans rfl; have hcz32_1 : w30.cell? ⟨gb312, 1, none⟩ = some (.int .i64 0) := (blk_cell BK312.out 1).trans rfl; have hfz32_0 := blk_frozen BK312.out 0; have hfz32_1 := blk_frozen BK312.out 1; have hcz33_0 : w30.cell? ⟨gb310, 0, none⟩ = some (.int .i64 a0_0) := (blk_cell BK310.out 0).trans rfl; have hcz33_1 : w30.cell? ⟨gb310, 1, none⟩ = some (.slice (some ad311) l0_1.length c0_1) := (blk_cell BK310.out 1).trans rfl; have hfz33_0 := blk_frozen BK310.out 0; have hfz33_1 := blk_frozen BK310.out 1)); try go_wp2_with (first | ((with_reducible refine gate_dst (N := 4) rfl ?_); (try (refine gate_guard (by rfl) ?_; dsimp only)); refine box_ 4 88 #[.int .i64 0, .int .i64 0] ?_; intro gb312 hg w30 hbox hb; have BK312 := Aside0.mk (hbox); have GW312 := G_ hg HB; have GE312 := G_ hg HB; have NB310_312 := Nl_ hg BK310; have NB312_310 := Ng_ hg BK310; replace BK310 := Bb_ BK310 hb; replace HB := Ls_ HB hb; clear hb hbox hg; have hnb31 := NB312_310.out; have hnc31 := NB310_312.out; have hcz32_0 : w30.cell? ⟨gb312, 0, none⟩ = some (.int .i64 0) := (blk_cell BK312.out 0).trans rfl; have hcz32_1 : w30.cell? ⟨gb312, 1, none⟩ = some (.int .i64 0) := (blk_cell BK312.out 1).trans rfl; have hfz32_0 := blk_frozen BK312.out 0; have hfz32_1 := blk_frozen BK312.out 1; have hcz33_0 : w30.cell? ⟨gb310, 0, none⟩ = some (.int .i64 a0_0) := (blk_cell BK310.out 0).trans rfl; have hcz33_1 : w30.cell? ⟨gb310, 1, none⟩ = some (.slice (some ad311) l0_1.length c0_1) := (blk_cell BK310.out 1).trans rfl; have hfz33_0 := blk_frozen BK310.out 0; have hfz33_1 := blk_frozen BK310.out 1)))
                   go_ret
                   exact ⟨E_, L_⟩
                 · rw [if_neg c28] at H
                   have c28b0 : decide (1125899906842624 < ((rd_T88 l0_1 x3_2).f1)) = false := decide_eq_false c28
                   clear c28
                   by_cases c34 : x3_2 > 0
                   · rw [if_pos c34] at H
                     have c34b0 : decide (0 < x3_2) = true := decide_eq_true c34
                     clear c34
                     obtain ⟨ji35, hji35⟩ : ∃ j_ : Int, (wrap64 (x3_2 - 1)) = j_ := ⟨_, rfl⟩
                     replace H : (if 0 ≤ (ji35) then (if (ji35) < (l0_1.length : Int) then (if ((rd_T88 l0_1 (ji35)).f0) ≥ ((rd_T88 l0_1 x3_2).f0) then (some false) else (mainsheetref15_Right.l0 k2 (wrap64 (x3_2 + 1)) a0_0 l0_1)) else (none)) else (none)) = some r := by first | (rw [hji35] at H; exact H) | (simp only [hji35] at H ⊢; exact H)
                     have hji35w : (IntKind.i64.wrap (x3_2 - 1)) = ji35 := (i64_w _).trans hji35
                     by_cases c36 : 0 ≤ (ji35)
                     · rw [if_pos c36] at H
                       have c36b0 : decide (0 ≤ (ji35)) = true := decide_eq_true c36
                       clear c36
                       by_cases c37 : (ji35) < (l0_1.length : Int)
                       · rw [if_pos c37] at H
                         have c37b0 : decide ((ji35) < (l0_1.length : Int)) = true := decide_eq_true c37
                         clear c37
                         by_cases c38 : ((rd_T88 l0_1 (ji35)).f0) ≥ ((rd_T88 l0_1 x3_2).f0)
                         · rw [if_pos c38] at H
                           have c38b0 : decide (((rd_T88 l0_1 x3_2).f0) ≤ ((rd_T88 l0_1 (ji35)).f0)) = true := decide_eq_true c38
                           clear c38
                           obtain rfl := Option.some.inj H
                           have hcz39_0 : wr.cell? ⟨gb310, 0, none⟩ = some (.int .i64 a0_0) := (blk_cell BK310.out 0).trans rfl
                           have hcz39_1 : wr.cell? ⟨gb310, 1, none⟩ = some (.slice A0_1 l0_1.length c0_1) := (blk_cell BK310.out 1).trans rfl
                           have hfz39_0 := blk_frozen BK310.out 0
                           have hfz39_1 := blk_frozen BK310.out 1
                           have p311 : 0 ≤ (x3_2 : Int) := of_decide_eq_true As_
                           have q311 : x3_2 < (l0_1.length : Int) := of_decide_eq_true As_
                           obtain ⟨ad311, e311, hx311_0, hx311_1⟩ := at_T88 HR0_1.out x3_2 p311 q311
                           cases e311
                           replace hx311_0 := Hx_ HB hx311_0
                           replace hx311_1 := Hx_ HB hx311_1
                           replace p311 := eq_true p311
                           replace q311 := eq_true q311
                           go_wp2_with (first | ((with_reducible refine gate_dst (N := 4) rfl ?_); (try (refine gate_guard (by rfl) ?_; dsimp only)); refine box_ 4 88 #[.int .i64 0, .int .i64 0] ?_; intro gb312 hg w40 hbox hb; have BK312 := Aside0.mk (hbox); have GW312 := G_ hg HB; have GE312 := G_ hg HB; have NB310_312 := Nl_ hg BK310; have NB312_310 := Ng_ hg BK310; replace BK310 := Bb_ BK310 hb; replace HB := Ls_ HB hb; clear hb hbox hg; have hnb41 := NB312_310.out; have hnc41 := NB310_312.out; have hcz42_0 : w40.cell? ⟨gb312, 0, none⟩ = some (.int .i64 0) := (blk_cell BK312.out 0).trans rfl; have hcz42_1 : w40.cell? ⟨gb312, 1, none⟩ = some (.int .i64 0) := (blk_cell BK312.out 1).trans rfl; have hfz42_0 := blk_frozen BK312.out 0; have hfz42_1 := blk_frozen BK312.out 1; have hcz43_0 : w40.cell? ⟨gb310, 0, none⟩ = some (.int .i64 a0_0) := (blk_cell BK310.out 0).trans rfl; have hcz43_1 : w40.cell? ⟨gb310, 1, none⟩ = some (.slice (some ad311) l0_1.length c0_1) := (blk_cell BK310.out 1).trans rfl; have hfz43_0 := blk_frozen BK310.out 0; have hfz43_1 := blk_frozen BK310.out 1; have p313 : 0 ≤ ((ji35) : Int) := of_decide_eq_true As_; have q313 : (ji35) < (l0_1.length : Int) := of_decide_eq_true As_; obtain ⟨ad313, e313, hx313_0, hx313_1⟩ := at_T88 HR0_1.out (ji35) p313 q313; obtain rfl : ad311 = ad313 := (by injection e313); have hn313_0 : ad311.block ≠ gb312 := Nat.ne_of_lt (Nat.lt_of_lt_of_le (by have := World.block_lt_of_cell? _ _ hx313_0; first | rwa [add_block] at this | exact this) GW312.out); have hn313_1 : ad311.block ≠ gb312 := Nat.ne_of_lt (Nat.lt_of_lt_of_le (by have := World.block_lt_of_cell? _ _ hx313_0; first | rwa [add_block] at this | exact this) GW312.out); replace hx313_0 := Hx_ HB hx313_0; replace hx313_1 := Hx_ HB hx313_1; replace hx313_0 := (cell_far (p := ⟨gb312, 0, none⟩) (by first | (rw [add_block]; exact hn313_0) | (show (Addr.add _ _).block ≠ _; rw [add_block]; exact hn313_0) | exact hn313_0) (.int .i64 ((rd_T88 l0_1 x3_2).f0))).trans hx313_0; replace hx313_1 := (cell_far (p := ⟨gb312, 0, none⟩) (by first | (rw [add_block]; exact hn313_0) | (show (Addr.add _ _).block ≠ _; rw [add_block]; exact hn313_0) | exact hn313_0) (.int .i64 ((rd_T88 l0_1 x3_2).f0))).trans hx313_1; replace hx313_0 := (cell_far (p := ⟨gb312, 1, none⟩) (by first | (rw [add_block]; exact hn313_1) | (show (Addr.add _ _).block ≠ _; rw [add_block]; exact hn313_1) | exact hn313_1) (.int .i64 ((rd_T88 l0_1 x3_2).f1))).trans hx313_0; replace hx313_1 := (cell_far (p := ⟨gb312, 1, none⟩) (by first | (rw [add_block]; exact hn313_1) | (show (Addr.add _ _).block ≠ _; rw [add_block]; exact hn313_1) | exact hn313_1) (.int .i64 ((rd_T88 l0_1 x3_2).f1))).trans hx313_1; (try have hy313_0 := fun (n_ : Nat) => (show ((((w40.drewN n_).setCell ⟨gb312, 0, none⟩ (.int .i64 ((rd_T88 l0_1 x3_2).f0))).setCell ⟨gb312, 1, none⟩ (.int .i64 ((rd_T88 l0_1 x3_2).f1)))).cell? _ = some _ from hx313_0)); (try have hy313_1 := fun (n_ : Nat) => (show ((((w40.drewN n_).setCell ⟨gb312, 0, none⟩ (.int .i64 ((rd_T88 l0_1 x3_2).f0))).setCell ⟨gb312, 1, none⟩ (.int .i64 ((rd_T88 l0_1 x3_2).f1)))).cell? _ = some _ from hx313_1)); clear hn313_0; clear hn313_1; replace p313 := eq_true p313; replace q313 := eq_true q313))
                           repeat (go_quiet (first | ((with_reducible refine gate_dst (N := 4) rfl ?_); (try (refine gate_guard (by rfl) ?_; dsimp only)); refine box_ 4 88 #[.int .i64 0, .int .i64 0] ?_; intro gb312 hg w40 hbox hb; have BK312 := Aside0.mk (hbox); have GW312 := G_ hg HB; have GE312 := G_ hg HB; have NB310_312 := Nl_ hg BK310; have NB312_310 := Ng_ hg BK310; replace BK310 := Bb_ BK310 hb; replace HB := Ls_ HB hb; clear hb hbox hg; have hnb41 := NB312_310.out; have hnc41 := NB310_312.out; have hcz42_0 : w40.cell? ⟨gb312, 0, none⟩ = some (.int .i64 0) := (blk_cell BK312.out 0).trans rfl; have hcz42_1 : w40.cell? ⟨gb312, 1, none⟩ = some (.int .i64 0) := (blk_cell BK312.out 1).trans rfl; have hfz42_0 := blk_frozen BK312.out 0; have hfz42_1 := blk_frozen BK312.out 1; have hcz43_0 : w40.cell? ⟨gb310, 0, none⟩ = some (.int .i64 a0_0) := (blk_cell BK310.out 0).trans rfl; have hcz43_1 : w40.cell? ⟨gb310, 1, none⟩ = some (.slice (some ad311) l0_1.length c0_1) := (blk_cell BK310.out 1).trans rfl; have hfz43_0 := blk_frozen BK310.out 0; have hfz43_1 := blk_frozen BK310.out 1; have p313 : 0 ≤ ((ji35) : Int) := of_decide_eq_true As_; have q313 : (ji35) < (l0_1.length : Int) := of_decide_eq_true As_; obtain ⟨ad313, e313, hx313_0, hx313_1⟩ := at_T88 HR0_1.out (ji35) p313 q313; obtain rfl : ad311 = ad313 := (by injection e313); have hn313_0 : ad311.block ≠ gb312 := Nat.ne_of_lt (Nat.lt_of_lt_of_le (by have := World.block_lt_of_cell? _ _ hx313_0; first | rwa [add_block] at this | exact this) GW312.out); have hn313_1 : ad311.block ≠ gb312 := Nat.ne_of_lt (Nat.lt_of_lt_of_le (by have := World.block_lt_of_cell? _ _ hx313_0; first | rwa [add_block] at this | exact this) GW312.out); replace hx313_0 := Hx_ HB hx313_0; replace hx313_1 := Hx_ HB hx313_1; replace hx313_0 := (cell_far (p := ⟨gb312, 0, none⟩) (by first | (rw [add_block]; exact hn313_0) | (show (Addr.add _ _).block ≠ _; rw [add_block]; exact hn313_0) | exact hn313_0) (.int .i64 ((rd_T88 l0_1 x3_2).f0))).trans hx313_0; replace hx313_1 := (cell_far (p := ⟨gb312, 0, none⟩) (by first | (rw [add_block]; exact hn313_0) | (show (Addr.add _ _).block ≠ _; rw [add_block]; exact hn313_0) | exact hn313_0) (.int .i64 ((rd_T88 l0_1 x3_2).f0))).trans hx313_1; replace hx313_0 := (cell_far (p := ⟨gb312, 1, none⟩) (by first | (rw [add_block]; exact hn313_1) | (show (Addr.add _ _).block ≠ _; rw [add_block]; exact hn313_1) | exact hn313_1) (.int .i64 ((rd_T88 l0_1 x3_2).f1))).trans hx313_0; replace hx313_1 := (cell_far (p := ⟨gb312, 1, none⟩) (by first | (rw [add_block]; exact hn313_1) | (show (Addr.add _ _).block ≠ _; rw [add_block]; exact hn313_1) | exact hn313_1) (.int .i64 ((rd_T88 l0_1 x3_2).f1))).trans hx313_1; (try have hy313_0 := fun (n_ : Nat) => (show ((((w40.drewN n_).setCell ⟨gb312, 0, none⟩ (.int .i64 ((rd_T88 l0_1 x3_2).f0))).setCell ⟨gb312, 1, none⟩ (.int .i64 ((rd_T88 l0_1 x3_2).f1)))).cell? _ = some _ from hx313_0)); (try have hy313_1 := fun (n_ : Nat) => (show ((((w40.drewN n_).setCell ⟨gb312, 0, none⟩ (.int .i64 ((rd_T88 l0_1 x3_2).f0))).setCell ⟨gb312, 1, none⟩ (.int .i64 ((rd_T88 l0_1 x3_2).f1)))).cell? _ = some _ from hx313_1)); clear hn313_0; clear hn313_1; replace p313 := eq_true p313; replace q313 := eq_true q313)); try go_wp2_with (first | ((with_reducible refine gate_dst (N := 4) rfl ?_); (try (refine gate_guard (by rfl) ?_; dsimp only)); refine box_ 4 88 #[.int .i64 0, .int .i64 0] ?_; intro gb312 hg w40 hbox hb; have BK312 := Aside0.mk (hbox); have GW312 := G_ hg HB; have GE312 := G_ hg HB; have NB310_312 := Nl_ hg BK310; have NB312_310 := Ng_ hg BK310; replace BK310 := Bb_ BK310 hb; replace HB := Ls_ HB hb; clear hb hbox hg; have hnb41 := NB312_310.out; have hnc41 := NB310_312.out; have hcz42_0 : w40.cell? ⟨gb312, 0, none⟩ = some (.int .i64 0) := (blk_cell BK312.out 0).trans rfl; have hcz42_1 : w40.cell? ⟨gb312, 1, none⟩ = some (.int .i64 0) := (blk_cell BK312.out 1).trans rfl; have hfz42_0 := blk_frozen BK312.out 0; have hfz42_1 := blk_frozen BK312.out 1; have hcz43_0 : w40.cell? ⟨gb310, 0, none⟩ = some (.int .i64 a0_0) := (blk_cell BK310.out 0).trans rfl; have hcz43_1 : w40.cell? ⟨gb310, 1, none⟩ = some (.slice (some ad311) l0_1.length c0_1) := (blk_cell BK310.out 1).trans rfl; have hfz43_0 := blk_frozen BK310.out 0; have hfz43_1 := blk_frozen BK310.out 1; have p313 : 0 ≤ ((ji35) : Int) := of_decide_eq_true As_; have q313 : (ji35) < (l0_1.length : Int) := of_decide_eq_true As_; obtain ⟨ad313, e313, hx313_0, hx313_1⟩ := at_T88 HR0_1.out (ji35) p313 q313; obtain rfl : ad311 = ad313 := (by injection e313); have hn313_0 : ad311.block ≠ gb312 := Nat.ne_of_lt (Nat.lt_of_lt_of_le (by have := World.block_lt_of_cell? _ _ hx313_0; first | rwa [add_block] at this | exact this) GW312.out); have hn313_1 : ad311.block ≠ gb312 := Nat.ne_of_lt (Nat.lt_of_lt_of_le (by have := World.block_lt_of_cell? _ _ hx313_0; first | rwa [add_block] at this | exact this) GW312.out); replace hx313_0 := Hx_ HB hx313_0; replace hx313_1 := Hx_ HB hx313_1; replace hx313_0 := (cell_far (p := ⟨gb312, 0, none⟩) (by first | (rw [add_block]; exact hn313_0) | (show (Addr.add _ _).block ≠ _; rw [add_block]; exact hn313_0) | exact hn313_0) (.int .i64 ((rd_T88 l0_1 x3_2).f0))).trans hx313_0; replace hx313_1 := (cell_far (p := ⟨gb312, 0, none⟩) (by first | (rw [add_block]; exact hn313_0) | (show (Addr.add _ _).block ≠ _; rw [add_block]; exact hn313_0) | exact hn313_0) (.int .i64 ((rd_T88 l0_1 x3_2).f0))).trans hx313_1; replace hx313_0 := (cell_far (p := ⟨gb312, 1, none⟩) (by first | (rw [add_block]; exact hn313_1) | (show (Addr.add _ _).block ≠ _; rw [add_block]; exact hn313_1) | exact hn313_1) (.int .i64 ((rd_T88 l0_1 x3_2).f1))).trans hx313_0; replace hx313_1 := (cell_far (p := ⟨gb312, 1, none⟩) (by first | (rw [add_block]; exact hn313_1) | (show (Addr.add _ _).block ≠ _; rw [add_block]; exact hn313_1) | exact hn313_1) (.int .i64 ((rd_T88 l0_1 x3_2).f1))).trans hx313_1; (try have hy313_0 := fun (n_ : Nat) => (show ((((w40.drewN n_).setCell ⟨gb312, 0, none⟩ (.int .i64 ((rd_T88 l0_1 x3_2).f0))).setCell ⟨gb312, 1, none⟩ (.int .i64 ((rd_T88 l0_1 x3_2).f1)))).cell? _ = some _ from hx313_0)); (try have hy313_1 := fun (n_ : Nat) => (show ((((w40.drewN n_).setCell ⟨gb312, 0, none⟩ (.int .i64 ((rd_T88 l0_1 x3_2).f0))).setCell ⟨gb312, 1, none⟩ (.int .i64 ((rd_T88 l0_1 x3_2).f1)))).cell? _ = some _ from hx313_1)); clear hn313_0; clear hn313_1; replace p313 := eq_true p313; replace q313 := eq_true q313)))
                           go_ret
                           exact ⟨by first | rfl | (simp [errW_none, errW_some] <;> rfl) | (simp only [← hji35]; first | rfl | (simp [errW_none, errW_some] <;> rfl)) | (simp [*, errW_none, errW_some] <;> rfl), L_⟩
                         · rw [if_neg c38] at H
                           have c38b0 : decide (((rd_T88 l0_1 x3_2).f0) ≤ ((rd_T88 l0_1 (ji35)).f0)) = false := decide_eq_false c38
                           clear c38
                           have H' := Aside0.mk H
                           clear H
                           have hcz44_0 : wr.cell? ⟨gb310, 0, none⟩ = some (.int .i64 a0_0) := (blk_cell BK310.out 0).trans rfl
                           have hcz44_1 : wr.cell? ⟨gb310, 1, none⟩ = some (.slice A0_1 l0_1.length c0_1) := (blk_cell BK310.out 1).trans rfl
                           have hfz44_0 := blk_frozen BK310.out 0
                           have hfz44_1 := blk_frozen BK310.out 1
                           have p311 : 0 ≤ (x3_2 : Int) := of_decide_eq_true As_
                           have q311 : x3_2 < (l0_1.length : Int) := of_decide_eq_true As_
                           obtain ⟨ad311, e311, hx311_0, hx311_1⟩ := at_T88 HR0_1.out x3_2 p311 q311
                           cases e311
                           replace hx311_0 := Hx_ HB hx311_0
                           replace hx311_1 := Hx_ HB hx311_1
                           replace p311 := eq_true p311
                           replace q311 := eq_true q311
                           go_wp2_with (first | ((with_reducible refine gate_dst (N := 4) rfl ?_); (try (refine gate_guard (by rfl) ?_; dsimp only)); refine box_ 4 88 #[.int .i64 0, .int .i64 0] ?_; intro gb312 hg w45 hbox hb; have BK312 := Aside0.mk (hbox); have GW312 := G_ hg HB; have GE312 := G_ hg HB; have NB310_312 := Nl_ hg BK310; have NB312_310 := Ng_ hg BK310; replace BK310 := Bb_ BK310 hb; replace HB := Ls_ HB hb; clear hb hbox hg; have hnb46 := NB312_310.out; have hnc46 := NB310_312.out; have hcz47_0 : w45.cell? ⟨gb312, 0, none⟩ = some (.int .i64 0) := (blk_cell BK312.out 0).trans rfl; have hcz47_1 : w45.cell? ⟨gb312, 1, none⟩ = some (.int .i64 0) := (blk_cell BK312.out 1).trans rfl; have hfz47_0 := blk_frozen BK312.out 0; have hfz47_1 := blk_frozen BK312.out 1; have hcz48_0 : w45.cell? ⟨gb310, 0, none⟩ = some (.int .i64 a0_0) := (blk_cell BK310.out 0).trans rfl; have hcz48_1 : w45.cell? ⟨gb310, 1, none⟩ = some (.slice (some ad311) l0_1.length c0_1) := (blk_cell BK310.out 1).trans rfl; have hfz48_0 := blk_frozen BK310.out 0; have hfz48_1 := blk_frozen BK310.out 1; have p313 : 0 ≤ ((ji35) : Int) := of_decide_eq_true As_; have q313 : (ji35) < (l0_1.length : Int) := of_decide_eq_true As_; obtain ⟨ad313, e313, hx313_0, hx313_1⟩ := at_T88 HR0_1.out (ji35) p313 q313; obtain rfl : ad311 = ad313 := (by injection e313); have hn313_0 : ad311.block ≠ gb312 := Nat.ne_of_lt (Nat.lt_of_lt_of_le (by have := World.block_lt_of_cell? _ _ hx313_0; first | rwa [add_block] at this | exact this) GW312.out); have hn313_1 : ad311.block ≠ gb312 := Nat.ne_of_lt (Nat.lt_of_lt_of_le (by have := World.block_lt_of_cell? _ _ hx313_0; first | rwa [add_block] at this | exact this) GW312.out); replace hx313_0 := Hx_ HB hx313_0; replace hx313_1 := Hx_ HB hx313_1; replace hx313_0 := (cell_far (p := ⟨gb312, 0, none⟩) (by first | (rw [add_block]; exact hn313_0) | (show (Addr.add _ _).block ≠ _; rw [add_block]; exact hn313_0) | exact hn313_0) (.int .i64 ((rd_T88 l0_1 x3_2).f0))).trans hx313_0; replace hx313_1 := (cell_far (p := ⟨gb312, 0, none⟩) (by first | (rw [add_block]; exact hn313_0) | (show (Addr.add _ _).block ≠ _; rw [add_block]; exact hn313_0) | exact hn313_0) (.int .i64 ((rd_T88 l0_1 x3_2).f0))).trans hx313_1; replace hx313_0 := (cell_far (p := ⟨gb312, 1, none⟩) (by first | (rw [add_block]; exact hn313_1) | (show (Addr.add _ _).block ≠ _; rw [add_block]; exact hn313_1) | exact hn313_1) (.int .i64 ((rd_T88 l0_1 x3_2).f1))).trans hx313_0; replace hx313_1 := (cell_far (p := ⟨gb312, 1, none⟩) (by first | (rw [add_block]; exact hn313_1) | (show (Addr.add _ _).block ≠ _; rw [add_block]; exact hn313_1) | exact hn313_1) (.int .i64 ((rd_T88 l0_1 x3_2).f1))).trans hx313_1; (try have hy313_0 := fun (n_ : Nat) => (show ((((w45.drewN n_).setCell ⟨gb312, 0, none⟩ (.int .i64 ((rd_T88 l0_1 x3_2).f0))).setCell ⟨gb312, 1, none⟩ (.int .i64 ((rd_T88 l0_1 x3_2).f1)))).cell? _ = some _ from hx313_0)); (try have hy313_1 := fun (n_ : Nat) => (show ((((w45.drewN n_).setCell ⟨gb312, 0, none⟩ (.int .i64 ((rd_T88 l0_1 x3_2).f0))).setCell ⟨gb312, 1, none⟩ (.int .i64 ((rd_T88 l0_1 x3_2).f1)))).cell? _ = some _ from hx313_1)); clear hn313_0; clear hn313_1; replace p313 := eq_true p313; replace q313 := eq_true q313))
                           repeat (go_quiet (first | ((with_reducible refine gate_dst (N := 4) rfl ?_); (try (refine gate_guard (by rfl) ?_; dsimp only)); refine box_ 4 88 #[.int .i64 0, .int .i64 0] ?_; intro gb312 hg w45 hbox hb; have BK312 := Aside0.mk (hbox); have GW312 := G_ hg HB; have GE312 := G_ hg HB; have NB310_312 := Nl_ hg BK310; have NB312_310 := Ng_ hg BK310; replace BK310 := Bb_ BK310 hb; replace HB := Ls_ HB hb; clear hb hbox hg; have hnb46 := NB312_310.out; have hnc46 := NB310_312.out; have hcz47_0 : w45.cell? ⟨gb312, 0, none⟩ = some (.int .i64 0) := (blk_cell BK312.out 0).trans rfl; have hcz47_1 : w45.cell? ⟨gb312, 1, none⟩ = some (.int .i64 0) := (blk_cell BK312.out 1).trans rfl; have hfz47_0 := blk_frozen BK312.out 0; have hfz47_1 := blk_frozen BK312.out 1; have hcz48_0 : w45.cell? ⟨gb310, 0, none⟩ = some (.int .i64 a0_0) := (blk_cell BK310.out 0).trans rfl; have hcz48_1 : w45.cell? ⟨gb310, 1, none⟩ = some (.slice (some ad311) l0_1.length c0_1) := (blk_cell BK310.out 1).trans rfl; have hfz48_0 := blk_frozen BK310.out 0; have hfz48_1 := blk_frozen BK310.out 1; have p313 : 0 ≤ ((ji35) : Int) := of_decide_eq_true As_; have q313 : (ji35) < (l0_1.length : Int) := of_decide_eq_true As_; obtain ⟨ad313, e313, hx313_0, hx313_1⟩ := at_T88 HR0_1.out (ji35) p313 q313; obtain rfl : ad311 = ad313 := (by injection e313); have hn313_0 : ad311.block ≠ gb312 := Nat.ne_of_lt (Nat.lt_of_lt_of_le (by have := World.block_lt_of_cell? _ _ hx313_0; first | rwa [add_block] at this | exact this) GW312.out); have hn313_1 : ad311.block ≠ gb312 := Nat.ne_of_lt (Nat.lt_of_lt_of_le (by have := World.block_lt_of_cell? _ _ hx313_0; first | rwa [add_block] at this | exact this) GW312.out); replace hx313_0 := Hx_ HB hx313_0; replace hx313_1 := Hx_ HB hx313_1; replace hx313_0 := (cell_far (p := ⟨gb312, 0, none⟩) (by first | (rw [add_block]; exact hn313_0) | (show (Addr.add _ _).block ≠ _; rw [add_block]; exact hn313_0) | exact hn313_0) (.int .i64 ((rd_T88 l0_1 x3_2).f0))).trans hx313_0; replace hx313_1 := (cell_far (p := ⟨gb312, 0, none⟩) (by first | (rw [add_block]; exact hn313_0) | (show (Addr.add _ _).block ≠ _; rw [add_block]; exact hn313_0) | exact hn313_0) (.int .i64 ((rd_T88 l0_1 x3_2).f0))).trans hx313_1; replace hx313_0 := (cell_far (p := ⟨gb312, 1, none⟩) (by first | (rw [add_block]; exact hn313_1) | (show (Addr.add _ _).block ≠ _; rw [add_block]; exact hn313_1) | exact hn313_1) (.int .i64 ((rd_T88 l0_1 x3_2).f1))).trans hx313_0; replace hx313_1 := (cell_far (p := ⟨gb312, 1, none⟩) (by first | (rw [add_block]; exact hn313_1) | (show (Addr.add _ _).block ≠ _; rw [add_block]; exact hn313_1) | exact hn313_1) (.int .i64 ((rd_T88 l0_1 x3_2).f1))).trans hx313_1; (try have hy313_0 := fun (n_ : Nat) => (show ((((w45.drewN n_).setCell ⟨gb312, 0, none⟩ (.int .i64 ((rd_T88 l0_1 x3_2).f0))).setCell ⟨gb312, 1, none⟩ (.int .i64 ((rd_T88 l0_1 x3_2).f1)))).cell? _ = some _ from hx313_0)); (try have hy313_1 := fun (n_ : Nat) => (show ((((w45.drewN n_).setCell ⟨gb312, 0, none⟩ (.int .i64 ((rd_T88 l0_1 x3_2).f0))).setCell ⟨gb312, 1, none⟩ (.int .i64 ((rd_T88 l0_1 x3_2).f1)))).cell? _ = some _ from hx313_1)); clear hn313_0; clear hn313_1; replace p313 := eq_true p313; replace q313 := eq_true q313)); try go_wp2_with (first | ((with_reducible refine gate_dst (N := 4) rfl ?_); (try (refine gate_guard (by rfl) ?_; dsimp only)); refine box_ 4 88 #[.int .i64 0, .int .i64 0] ?_; intro gb312 hg w45 hbox hb; have BK312 := Aside0.mk (hbox); have GW312 := G_ hg HB; have GE312 := G_ hg HB; have NB310_312 := Nl_ hg BK310; have NB312_310 := Ng_ hg BK310; replace BK310 := Bb_ BK310 hb; replace HB := Ls_ HB hb; clear hb hbox hg; have hnb46 := NB312_310.out; have hnc46 := NB310_312.out; have hcz47_0 : w45.cell? ⟨gb312, 0, none⟩ = some (.int .i64 0) := (blk_cell BK312.out 0).trans rfl; have hcz47_1 : w45.cell? ⟨gb312, 1, none⟩ = some (.int .i64 0) := (blk_cell BK312.out 1).trans rfl; have hfz47_0 := blk_frozen BK312.out 0; have hfz47_1 := blk_frozen BK312.out 1; have hcz48_0 : w45.cell? ⟨gb310, 0, none⟩ = some (.int .i64 a0_0) := (blk_cell BK310.out 0).trans rfl; have hcz48_1 : w45.cell? ⟨gb310, 1, none⟩ = some (.slice (some ad311) l0_1.length c0_1) := (blk_cell BK310.out 1).trans rfl; have hfz48_0 := blk_frozen BK310.out 0; have hfz48_1 := blk_frozen BK310.out 1; have p313 : 0 ≤ ((ji35) : Int) := of_decide_eq_true As_; have q313 : (ji35) < (l0_1.length : Int) := of_decide_eq_true As_; obtain ⟨ad313, e313, hx313_0, hx313_1⟩ := at_T88 HR0_1.out (ji35) p313 q313; obtain rfl : ad311 = ad313 := (by injection e313); have hn313_0 : ad311.block ≠ gb312 := Nat.ne_of_lt (Nat.lt_of_lt_of_le (by have := World.block_lt_of_cell? _ _ hx313_0; first | rwa [add_block] at this | exact this) GW312.out); have hn313_1 : ad311.block ≠ gb312 := Nat.ne_of_lt (Nat.lt_of_lt_of_le (by have := World.block_lt_of_cell? _ _ hx313_0; first | rwa [add_block] at this | exact this) GW312.out); replace hx313_0 := Hx_ HB hx313_0; replace hx313_1 := Hx_ HB hx313_1; replace hx313_0 := (cell_far (p := ⟨gb312, 0, none⟩) (by first | (rw [add_block]; exact hn313_0) | (show (Addr.add _ _).block ≠ _; rw [add_block]; exact hn313_0) | exact hn313_0) (.int .i64 ((rd_T88 l0_1 x3_2).f0))).trans hx313_0; replace hx313_1 := (cell_far (p := ⟨gb312, 0, none⟩) (by first | (rw [add_block]; exact hn313_0) | (show (Addr.add _ _).block ≠ _; rw [add_block]; exact hn313_0) | exact hn313_0) (.int .i64 ((rd_T88 l0_1 x3_2).f0))).trans hx313_1; replace hx313_0 := (cell_far (p := ⟨gb312, 1, none⟩) (by first | (rw [add_block]; exact hn313_1) | (show (Addr.add _ _).block ≠ _; rw [add_block]; exact hn313_1) | exact hn313_1) (.int .i64 ((rd_T88 l0_1 x3_2).f1))).trans hx313_0; replace hx313_1 := (cell_far (p := ⟨gb312, 1, none⟩) (by first | (rw [add_block]; exact hn313_1) | (show (Addr.add _ _).block ≠ _; rw [add_block]; exact hn313_1) | exact hn313_1) (.int .i64 ((rd_T88 l0_1 x3_2).f1))).trans hx313_1; (try have hy313_0 := fun (n_ : Nat) => (show ((((w45.drewN n_).setCell ⟨gb312, 0, none⟩ (.int .i64 ((rd_T88 l0_1 x3_2).f0))).setCell ⟨gb312, 1, none⟩ (.int .i64 ((rd_T88 l0_1 x3_2).f1)))).cell? _ = some _ from hx313_0)); (try have hy313_1 := fun (n_ : Nat) => (show ((((w45.drewN n_).setCell ⟨gb312, 0, none⟩ (.int .i64 ((rd_T88 l0_1 x3_2).f0))).setCell ⟨gb312, 1, none⟩ (.int .i64 ((rd_T88 l0_1 x3_2).f1)))).cell? _ = some _ from hx313_1)); clear hn313_0; clear hn313_1; replace p313 := eq_true p313; replace q313 := eq_true q313)))
                           go_roundg k2
                           case measure => have := HJ1.out; have := HK2.out; omega
                           case rel => exact ⟨(wrap64 (x3_2 + 1)), S_, H', ⟨by have := HJ1.out; have := HK2.out; omega⟩, ⟨Bz_ BK310⟩, ⟨L_⟩⟩
                       · rw [if_neg c37] at H
                         exact absurd H (by simp)
                     · rw [if_neg c36] at H
                       exact absurd H (by simp)
                   · rw [if_neg c34] at H
                     have c34b0 : decide (0 < x3_2) = false := decide_eq_false c34
                     clear c34
                     have H' := Aside0.mk H
                     clear H
                     have hcz49_0 : wr.cell? ⟨gb310, 0, none⟩ = some (.int .i64 a0_0) := (blk_cell BK310.out 0).trans rfl
                     have hcz49_1 : wr.cell? ⟨gb310, 1, none⟩ = some (.slice A0_1 l0_1.length c0_1) := (blk_cell BK310.out 1).trans rfl
                     have hfz49_0 := blk_frozen BK310.out 0
                     have hfz49_1 := blk_frozen BK310.out 1
                     have p311 : 0 ≤ (x3_2 : Int) := of_decide_eq_true As_
                     have q311 : x3_2 < (l0_1.length : Int) := of_decide_eq_true As_
                     obtain ⟨ad311, e311, hx311_0, hx311_1⟩ := at_T88 HR0_1.out x3_2 p311 q311
                     cases e311
                     replace hx311_0 := Hx_ HB hx311_0
                     replace hx311_1 := Hx_ HB hx311_1
                     replace p311 := eq_true p311
                     replace q311 := eq_true q311
                     go_wp2_with (first | ((with_reducible refine gate_dst (N := 4) rfl ?_); (try (refine gate_guard (by rfl) ?_; dsimp only)); refine box_ 4 88 #[.int .i64 0, .int .i64 0] ?_; intro gb312 hg w50 hbox hb; have BK312 := Aside0.mk (hbox); have GW312 := G_ hg HB; have GE312 := G_ hg HB; have NB310_312 := Nl_ hg BK310; have NB312_310 := Ng_ hg BK310; replace BK310 := Bb_ BK310 hb; replace HB := Ls_ HB hb; clear hb hbox hg; have hnb51 := NB312_310.out; have hnc51 := NB310_312.out; have hcz52_0 : w50.cell? ⟨gb312, 0, none⟩ = some (.int .i64 0) := (blk_cell BK312.out 0).trans rfl; have hcz52_1 : w50.cell? ⟨gb312, 1, none⟩ = some (.int .i64 0) := (blk_cell BK312.out 1).trans rfl; have hfz52_0 := blk_frozen BK312.out 0; have hfz52_1 := blk_frozen BK312.out 1; have hcz53_0 : w50.cell? ⟨gb310, 0, none⟩ = some (.int .i64 a0_0) := (blk_cell BK310.out 0).trans rfl; have hcz53_1 : w50.cell? ⟨gb310, 1, none⟩ = some (.slice (some ad311) l0_1.length c0_1) := (blk_cell BK310.out 1).trans rfl; have hfz53_0 := blk_frozen BK310.out 0; have hfz53_1 := blk_frozen BK310.out 1))
                     repeat (go_quiet (first | ((with_reducible refine gate_dst (N := 4) rfl ?_); (try (refine gate_guard (by rfl) ?_; dsimp only)); refine box_ 4 88 #[.int .i64 0, .int .i64 0] ?_; intro gb312 hg w50 hbox hb; have BK312 := Aside0.mk (hbox); have GW312 := G_ hg HB; have GE312 := G_ hg HB; have NB310_312 := Nl_ hg BK310; have NB312_310 := Ng_ hg BK310; replace BK310 := Bb_ BK310 hb; replace HB := Ls_ HB hb; clear hb hbox hg; have hnb51 := NB312_310.out; have hnc51 := NB310_312.out; have hcz52_0 : w50.cell? ⟨gb312, 0, none⟩ = some (.int .i64 0) := (blk_cell BK312.out 0).trans rfl; have hcz52_1 : w50.cell? ⟨gb312, 1, none⟩ = some (.int .i64 0) := (blk_cell BK312.out 1).trans rfl; have hfz52_0 := blk_frozen BK312.out 0; have hfz52_1 := blk_frozen BK312.out 1; have hcz53_0 : w50.cell? ⟨gb310, 0, none⟩ = some (.int .i64 a0_0) := (blk_cell BK310.out 0).trans rfl; have hcz53_1 : w50.cell? ⟨gb310, 1, none⟩ = some (.slice (some ad311) l0_1.length c0_1) := (blk_cell BK310.out 1).trans rfl; have hfz53_0 := blk_frozen BK310.out 0; have hfz53_1 := blk_frozen BK310.out 1)); try go_wp2_with (first | ((with_reducible refine gate_dst (N := 4) rfl ?_); (try (refine gate_guard (by rfl) ?_; dsimp only)); refine box_ 4 88 #[.int .i64 0, .int .i64 0] ?_; intro gb312 hg w50 hbox hb; have BK312 := Aside0.mk (hbox); have GW312 := G_ hg HB; have GE312 := G_ hg HB; have NB310_312 := Nl_ hg BK310; have NB312_310 := Ng_ hg BK310; replace BK310 := Bb_ BK310 hb; replace HB := Ls_ HB hb; clear hb hbox hg; have hnb51 := NB312_310.out; have hnc51 := NB310_312.out; have hcz52_0 : w50.cell? ⟨gb312, 0, none⟩ = some (.int .i64 0) := (blk_cell BK312.out 0).trans rfl; have hcz52_1 : w50.cell? ⟨gb312, 1, none⟩ = some (.int .i64 0) := (blk_cell BK312.out 1).trans rfl; have hfz52_0 := blk_frozen BK312.out 0; have hfz52_1 := blk_frozen BK312.out 1; have hcz53_0 : w50.cell? ⟨gb310, 0, none⟩ = some (.int .i64 a0_0) := (blk_cell BK310.out 0).trans rfl; have hcz53_1 : w50.cell? ⟨gb310, 1, none⟩ = some (.slice (some ad311) l0_1.length c0_1) := (blk_cell BK310.out 1).trans rfl; have hfz53_0 := blk_frozen BK310.out 0; have hfz53_1 := blk_frozen BK310.out 1)))
                     go_roundg k2
                     case measure => have := HJ1.out; have := HK2.out; omega
                     case rel => exact ⟨(wrap64 (x3_2 + 1)), S_, H', ⟨by have := HJ1.out; have := HK2.out; omega⟩, ⟨Bz_ BK310⟩, ⟨L_⟩⟩
         · rw [if_neg c11] at H
           exact absurd H (by simp)
       · rw [if_neg c10] at H
         have c10b0 : decide (x3_2 < (l0_1.length : Int)) = false := decide_eq_false c10
         clear c10
         obtain rfl := Option.some.inj H
         have hcz54_0 : wr.cell? ⟨gb310, 0, none⟩ = some (.int .i64 a0_0) := (blk_cell BK310.out 0).trans rfl
         have hcz54_1 : wr.cell? ⟨gb310, 1, none⟩ = some (.slice A0_1 l0_1.length c0_1) := (blk_cell BK310.out 1).trans rfl
         have hfz54_0 := blk_frozen BK310.out 0
         have hfz54_1 := blk_frozen BK310.out 1
         go_wp2
         repeat (go_quiet (fail); try go_wp2)
         go_ret
         exact ⟨E_, L_⟩

/-! ### mainsheetref15_At: function 44 -/
def mainsheetref15_At.l0 : Nat → Int → Int → Int → List (S88) → Option (Int)
 | 0, _, _, _, _ => none
 | k + 1, x1, x5, x315000, x315001 => if x5 < (x315001.length : Int) then (if 0 ≤ x5 then (if ((rd_T88 x315001 x5).f0) = x1 then (some ((rd_T88 x315001 x5).f1)) else (mainsheetref15_At.l0 k x1 (wrap64 (x5 + 1)) x315000 x315001)) else (none)) else (some 0)
def mainsheetref15_At.f (k : Nat) (a0_0 : Int) (l0_1 : List (S88)) (a1 : Int) : Option (Int) := mainsheetref15_At.l0 k a1 0 a0_0 l0_1
theorem mainsheetref15_At.mono_l : ∀ k, (∀ y0 y1 y2 y3, LeO (mainsheetref15_At.l0 k y0 y1 y2 y3) (mainsheetref15_At.l0 (k + 1) y0 y1 y2 y3))
 | 0 => fun _ _ _ _ r h => by simp [mainsheetref15_At.l0] at h
 | k + 1 => by
  have ih0 := mainsheetref15_At.mono_l k
  · intro y0 y1 y2 y3
    unfold mainsheetref15_At.l0
    repeat' first
    | (with_reducible exact ih0 _ _ _ _)
    | (with_reducible exact LeO.refl _)
    | (with_reducible exact LeO.none _)
    | (with_reducible refine LeO.ite ?_ ?_)
    | (with_reducible refine LeO.bind ?_ (fun _ => ?_))
    | exact ih0 _ _ _ _
    | exact LeO.none _
    | refine LeO.ite ?_ ?_
    | refine LeO.bind ?_ (fun _ => ?_)
theorem mainsheetref15_At.mono : ∀ a0 a1 a2 k, LeO (mainsheetref15_At.f k a0 a1 a2) (mainsheetref15_At.f (k + 1) a0 a1 a2) := by
 intro a0 a1 a2 k
 have ih0 := mainsheetref15_At.mono_l k
 unfold mainsheetref15_At.f
 repeat' first
  | (with_reducible exact ih0 _ _ _ _)
  | (with_reducible exact LeO.refl _)
  | (with_reducible exact LeO.none _)
  | (with_reducible refine LeO.ite ?_ ?_)
  | (with_reducible refine LeO.bind ?_ (fun _ => ?_))
  | exact ih0 _ _ _ _
  | exact LeO.none _
  | refine LeO.ite ?_ ?_
  | refine LeO.bind ?_ (fun _ => ?_)
set_option maxHeartbeats 8000000 in
set_option maxRecDepth 100000 in
theorem mainsheetref15_At.calls (k : Nat) (a0_0 : Int) (A0_1 : Option Addr) (c0_1 : Nat) (l0_1 : List (S88)) (a1 : Int) (r : Int) (w : World) (hr0_1 : Kd.C k88 w A0_1 l0_1.length l0_1) (hc0_1 : l0_1.length ≤ c0_1) (h : mainsheetref15_At.f k a0_0 l0_1 a1 = some r) :
 Calls Try.prog 44 #[.agg #[.int .i64 a0_0, .slice A0_1 l0_1.length c0_1], .int .i64 a1] w fun e w' => e = .returned (.int .i64 r) ∧ Below w.heap.size w w' := by
 have hu24 := Try.underlying24
 have HR0_1 := Aside0.mk hr0_1
 have HC0_1 := Aside0.mk hc0_1
 clear hr0_1 hc0_1
 have HB := Aside0.mk (Below.refl w.heap.size w)
 have H : (mainsheetref15_At.l0 k a1 0 a0_0 l0_1) = some r := h
 clear h
 have H' := Aside0.mk H
 clear H
 go_enter Try.func44, Try.ntmps44
 go_wp2_with (first | ((with_reducible refine gate_dst (N := 2) rfl ?_); refine box_ 2 24 #[.int .i64 a0_0, .slice A0_1 l0_1.length c0_1] ?_; intro gb314 hg w3 hbox hb; have BK314 := Aside0.mk (hbox); have GW314 := G_ hg HB; have GE314 := G_ hg HB; replace HB := Ls_ HB hb; clear hb hbox hg))
 go_loopg [5] k (fun kq v5 w' => ∃ (x5_1 : Int), v5 = .int .i64 x5_1 ∧ Aside0 (mainsheetref15_At.l0 kq a1 x5_1 a0_0 l0_1 = some r) ∧ Aside0 (kq ≤ k) ∧ Aside0 (w'.heap[gb314]? = some (.cells #[.int .i64 a0_0, (.slice A0_1 l0_1.length c0_1)] 24 (0, 0))) ∧ Aside0 (Below w.heap.size w w'))
 case atStart => exact ⟨(0), S_, H', ⟨Nat.le_refl _⟩, ⟨B_ BK314⟩, ⟨L_⟩⟩
 case round =>
  clear H'
  try clear p2
  obtain ⟨x5_1, rfl, HA, HK1, BK314, HB⟩ := hrel
  cases gk with
  | zero => exact absurd HA.out (by simp [mainsheetref15_At.l0])
  | succ k1 =>
   have H := HA.out
   clear HA
   simp only [mainsheetref15_At.l0] at H
   by_cases c4 : x5_1 < (l0_1.length : Int)
   · rw [if_pos c4] at H
     have c4b0 : decide (x5_1 < (l0_1.length : Int)) = true := decide_eq_true c4
     clear c4
     by_cases c5 : 0 ≤ x5_1
     · rw [if_pos c5] at H
       have c5b0 : decide (0 ≤ x5_1) = true := decide_eq_true c5
       clear c5
       by_cases c6 : ((rd_T88 l0_1 x5_1).f0) = a1
       · rw [if_pos c6] at H
         have c6b0 : (((rd_T88 l0_1 x5_1).f0) == a1) = true := beq_iff_eq.mpr c6
         have c6b1 : (((rd_T88 l0_1 x5_1).f0) != a1) = false := bne_eq_false_iff_eq.mpr c6
         clear c6
         obtain rfl := Option.some.inj H
         have hcz7_0 : wr.cell? ⟨gb314, 0, none⟩ = some (.int .i64 a0_0) := (blk_cell BK314.out 0).trans rfl
         have hcz7_1 : wr.cell? ⟨gb314, 1, none⟩ = some (.slice A0_1 l0_1.length c0_1) := (blk_cell BK314.out 1).trans rfl
         have hfz7_0 := blk_frozen BK314.out 0
         have hfz7_1 := blk_frozen BK314.out 1
         have p315 : 0 ≤ (x5_1 : Int) := of_decide_eq_true As_
         have q315 : x5_1 < (l0_1.length : Int) := of_decide_eq_true As_
         obtain ⟨ad315, e315, hx315_0, hx315_1⟩ := at_T88 HR0_1.out x5_1 p315 q315
         cases e315
         replace hx315_0 := Hx_ HB hx315_0
         replace hx315_1 := Hx_ HB hx315_1
         replace p315 := eq_true p315
         replace q315 := eq_true q315
         have p316 : 0 ≤ (x5_1 : Int) := of_decide_eq_true As_
         have q316 : x5_1 < (l0_1.length : Int) := of_decide_eq_true As_
         obtain ⟨ad316, e316, hx316_0, hx316_1⟩ := at_T88 HR0_1.out x5_1 p316 q316
         obtain rfl : ad315 = ad316 := (by injection e316)
         replace hx316_0 := Hx_ HB hx316_0
         replace hx316_1 := Hx_ HB hx316_1
         replace p316 := eq_true p316
         replace q316 := eq_true q316
         go_wp2
         go_ret
         exact ⟨E_, L_⟩
       · rw [if_neg c6] at H
         have c6b0 : (((rd_T88 l0_1 x5_1).f0) == a1) = false := beq_eq_false_iff_ne.mpr c6
         have c6b1 : (((rd_T88 l0_1 x5_1).f0) != a1) = true := bne_iff_ne.mpr c6
         have H' := Aside0.mk H
         clear H
         have hcz8_0 : wr.cell? ⟨gb314, 0, none⟩ = some (.int .i64 a0_0) := (blk_cell BK314.out 0).trans rfl
         have hcz8_1 : wr.cell? ⟨gb314, 1, none⟩ = some (.slice A0_1 l0_1.length c0_1) := (blk_cell BK314.out 1).trans rfl
         have hfz8_0 := blk_frozen BK314.out 0
         have hfz8_1 := blk_frozen BK314.out 1
         have p315 : 0 ≤ (x5_1 : Int) := of_decide_eq_true As_
         have q315 : x5_1 < (l0_1.length : Int) := of_decide_eq_true As_
         obtain ⟨ad315, e315, hx315_0, hx315_1⟩ := at_T88 HR0_1.out x5_1 p315 q315
         cases e315
         replace hx315_0 := Hx_ HB hx315_0
         replace hx315_1 := Hx_ HB hx315_1
         replace p315 := eq_true p315
         replace q315 := eq_true q315
         go_wp2
         go_roundg k1
         case measure => have := HK1.out; omega
         case rel => exact ⟨(wrap64 (x5_1 + 1)), S_, H', ⟨by have := HK1.out; omega⟩, ⟨B_ BK314⟩, ⟨L_⟩⟩
     · rw [if_neg c5] at H
       exact absurd H (by simp)
   · rw [if_neg c4] at H
     have c4b0 : decide (x5_1 < (l0_1.length : Int)) = false := decide_eq_false c4
     clear c4
     obtain rfl := Option.some.inj H
     have hcz9_0 : wr.cell? ⟨gb314, 0, none⟩ = some (.int .i64 a0_0) := (blk_cell BK314.out 0).trans rfl
     have hcz9_1 : wr.cell? ⟨gb314, 1, none⟩ = some (.slice A0_1 l0_1.length c0_1) := (blk_cell BK314.out 1).trans rfl
     have hfz9_0 := blk_frozen BK314.out 0
     have hfz9_1 := blk_frozen BK314.out 1
     go_wp2
     go_ret
     exact ⟨E_, L_⟩

/-! ### mainsheetref18_find: function 45 -/
def mainsheetref18_find.l0 : Nat → Int → List (S47) → Int → Int → Option (Int)
 | 0, _, _, _, _ => none
 | k + 1, x1, x8, x9, x10 => if x10 < x9 then (if 0 ≤ x10 then (if x10 < (x8.length : Int) then (if ((rd_T47 x8 x10).f0) = x1 then (some x10) else (mainsheetref18_find.l0 k x1 x8 x9 (wrap64 (x10 + 1)))) else (none)) else (none)) else (some (-1))
def mainsheetref18_find.f (k : Nat) (a0_0 : Int) (l0_1 : List (S88)) (l0_2 : List (S47)) (a1 : Int) : Option (Int) := mainsheetref18_find.l0 k a1 l0_2 (l0_2.length : Int) 0
theorem mainsheetref18_find.mono_l : ∀ k, (∀ y0 y1 y2 y3, LeO (mainsheetref18_find.l0 k y0 y1 y2 y3) (mainsheetref18_find.l0 (k + 1) y0 y1 y2 y3))
 | 0 => fun _ _ _ _ r h => by simp [mainsheetref18_find.l0] at h
 | k + 1 => by
  have ih0 := mainsheetref18_find.mono_l k
  · intro y0 y1 y2 y3
    unfold mainsheetref18_find.l0
    repeat' first
    | (with_reducible exact ih0 _ _ _ _)
    | (with_reducible exact LeO.refl _)
    | (with_reducible exact LeO.none _)
    | (with_reducible refine LeO.ite ?_ ?_)
    | (with_reducible refine LeO.bind ?_ (fun _ => ?_))
    | exact ih0 _ _ _ _
    | exact LeO.none _
    | refine LeO.ite ?_ ?_
    | refine LeO.bind ?_ (fun _ => ?_)
theorem mainsheetref18_find.mono : ∀ a0 a1 a2 a3 k, LeO (mainsheetref18_find.f k a0 a1 a2 a3) (mainsheetref18_find.f (k + 1) a0 a1 a2 a3) := by
 intro a0 a1 a2 a3 k
 have ih0 := mainsheetref18_find.mono_l k
 unfold mainsheetref18_find.f
 repeat' first
  | (with_reducible exact ih0 _ _ _ _)
  | (with_reducible exact LeO.refl _)
  | (with_reducible exact LeO.none _)
  | (with_reducible refine LeO.ite ?_ ?_)
  | (with_reducible refine LeO.bind ?_ (fun _ => ?_))
  | exact ih0 _ _ _ _
  | exact LeO.none _
  | refine LeO.ite ?_ ?_
  | refine LeO.bind ?_ (fun _ => ?_)
set_option maxHeartbeats 8000000 in
set_option maxRecDepth 100000 in
theorem mainsheetref18_find.calls (k : Nat) (a0_0 : Int) (A0_1 : Option Addr) (c0_1 : Nat) (l0_1 : List (S88)) (A0_2 : Option Addr) (c0_2 : Nat) (l0_2 : List (S47)) (a1 : Int) (r : Int) (w : World) (hr0_1 : Kd.C k88 w A0_1 l0_1.length l0_1) (hc0_1 : l0_1.length ≤ c0_1) (hr0_2 : Kd.C k47 w A0_2 l0_2.length l0_2) (hc0_2 : l0_2.length ≤ c0_2) (h : mainsheetref18_find.f k a0_0 l0_1 l0_2 a1 = some r) :
 Calls Try.prog 45 #[.agg #[.int .i64 a0_0, .slice A0_1 l0_1.length c0_1, .slice A0_2 l0_2.length c0_2], .int .i64 a1] w fun e w' => e = .returned (.int .i64 r) ∧ Below w.heap.size w w' := by
 have hu27 := Try.underlying27
 have hu47 := Try.underlying47
 have HR0_1 := Aside0.mk hr0_1
 have HC0_1 := Aside0.mk hc0_1
 clear hr0_1 hc0_1
 have HR0_2 := Aside0.mk hr0_2
 have HC0_2 := Aside0.mk hc0_2
 clear hr0_2 hc0_2
 have HB := Aside0.mk (Below.refl w.heap.size w)
 have H : (mainsheetref18_find.l0 k a1 l0_2 (l0_2.length : Int) 0) = some r := h
 clear h
 have H' := Aside0.mk H
 clear H
 go_enter Try.func45, Try.ntmps45
 go_wp2_with (first | ((with_reducible refine gate_dst (N := 2) rfl ?_); refine box_ 2 27 #[.int .i64 a0_0, .slice A0_1 l0_1.length c0_1, .slice A0_2 l0_2.length c0_2] ?_; intro gb317 hg w3 hbox hb; have BK317 := Aside0.mk (hbox); have GW317 := G_ hg HB; have GE317 := G_ hg HB; replace HB := Ls_ HB hb; clear hb hbox hg; have hcz4_0 : w3.cell? ⟨gb317, 0, none⟩ = some (.int .i64 a0_0) := (blk_cell BK317.out 0).trans rfl; have hcz4_1 : w3.cell? ⟨gb317, 1, none⟩ = some (.slice A0_1 l0_1.length c0_1) := (blk_cell BK317.out 1).trans rfl; have hcz4_2 : w3.cell? ⟨gb317, 2, none⟩ = some (.slice A0_2 l0_2.length c0_2) := (blk_cell BK317.out 2).trans rfl; have hfz4_0 := blk_frozen BK317.out 0; have hfz4_1 := blk_frozen BK317.out 1; have hfz4_2 := blk_frozen BK317.out 2))
 go_loopg [10] k (fun kq v10 w' => ∃ (x10_1 : Int), v10 = .int .i64 x10_1 ∧ Aside0 (mainsheetref18_find.l0 kq a1 l0_2 (l0_2.length : Int) x10_1 = some r) ∧ Aside0 (kq ≤ k) ∧ Aside0 (w'.heap[gb317]? = some (.cells #[.int .i64 a0_0, (.slice A0_1 l0_1.length c0_1), (.slice A0_2 l0_2.length c0_2)] 27 (0, 0))) ∧ Aside0 (Below w.heap.size w w'))
 case atStart => exact ⟨(0), S_, H', ⟨Nat.le_refl _⟩, ⟨B_ BK317⟩, ⟨L_⟩⟩
 case round =>
  clear H'
  try clear p2; try clear c4; try clear hcz4_0; try clear hcz4_1; try clear hcz4_2; try clear hfz4_0; try clear hfz4_1; try clear hfz4_2
  obtain ⟨x10_1, rfl, HA, HK1, BK317, HB⟩ := hrel
  cases gk with
  | zero => exact absurd HA.out (by simp [mainsheetref18_find.l0])
  | succ k1 =>
   have H := HA.out
   clear HA
   simp only [mainsheetref18_find.l0] at H
   by_cases c5 : x10_1 < (l0_2.length : Int)
   · rw [if_pos c5] at H
     have c5b0 : decide (x10_1 < (l0_2.length : Int)) = true := decide_eq_true c5
     clear c5
     by_cases c6 : 0 ≤ x10_1
     · rw [if_pos c6] at H
       have c6b0 : decide (0 ≤ x10_1) = true := decide_eq_true c6
       clear c6
       by_cases c7 : x10_1 < (l0_2.length : Int)
       · rw [if_pos c7] at H
         have c7b0 : decide (x10_1 < (l0_2.length : Int)) = true := decide_eq_true c7
         clear c7
         by_cases c8 : ((rd_T47 l0_2 x10_1).f0) = a1
         · rw [if_pos c8] at H
           have c8b0 : (((rd_T47 l0_2 x10_1).f0) == a1) = true := beq_iff_eq.mpr c8
           have c8b1 : (((rd_T47 l0_2 x10_1).f0) != a1) = false := bne_eq_false_iff_eq.mpr c8
           clear c8
           obtain rfl := Option.some.inj H
           have p318 : 0 ≤ (x10_1 : Int) := of_decide_eq_true As_
           have q318 : x10_1 < (l0_2.length : Int) := of_decide_eq_true As_
           obtain ⟨ad318, e318, hx318_0, hx318_1, hx318_2⟩ := at_T47 HR0_2.out x10_1 p318 q318
           cases e318
           replace hx318_0 := Hx_ HB hx318_0
           replace hx318_1 := Hx_ HB hx318_1
           replace hx318_2 := Hx_ HB hx318_2
           replace p318 := eq_true p318
           replace q318 := eq_true q318
           go_wp2_with (first | ((with_reducible refine gate_dst (N := 6) rfl ?_); refine box_ 6 47 #[.int .i64 0, .int .i64 0, .int .i64 0] ?_; intro gb319 hg w9 hbox hb; have BK319 := Aside0.mk (hbox); have GW319 := G_ hg HB; have GE319 := G_ hg HB; have NB317_319 := Nl_ hg BK317; have NB319_317 := Ng_ hg BK317; replace BK317 := Bb_ BK317 hb; replace HB := Ls_ HB hb; clear hb hbox hg; have hnb10 := NB319_317.out; have hnc10 := NB317_319.out; have hcz11_0 : w9.cell? ⟨gb319, 0, none⟩ = some (.int .i64 0) := (blk_cell BK319.out 0).trans rfl; have hcz11_1 : w9.cell? ⟨gb319, 1, none⟩ = some (.int .i64 0) := (blk_cell BK319.out 1).trans rfl; have hcz11_2 : w9.cell? ⟨gb319, 2, none⟩ = some (.int .i64 0) := (blk_cell BK319.out 2).trans rfl; have hfz11_0 := blk_frozen BK319.out 0; have hfz11_1 := blk_frozen BK319.out 1; have hfz11_2 := blk_frozen BK319.out 2))
           go_ret
           exact ⟨E_, L_⟩
         · rw [if_neg c8] at H
           have c8b0 : (((rd_T47 l0_2 x10_1).f0) == a1) = false := beq_eq_false_iff_ne.mpr c8
           have c8b1 : (((rd_T47 l0_2 x10_1).f0) != a1) = true := bne_iff_ne.mpr c8
           have H' := Aside0.mk H
           clear H
           have p318 : 0 ≤ (x10_1 : Int) := of_decide_eq_true As_
           have q318 : x10_1 < (l0_2.length : Int) := of_decide_eq_true As_
           obtain ⟨ad318, e318, hx318_0, hx318_1, hx318_2⟩ := at_T47 HR0_2.out x10_1 p318 q318
           cases e318
           replace hx318_0 := Hx_ HB hx318_0
           replace hx318_1 := Hx_ HB hx318_1
           replace hx318_2 := Hx_ HB hx318_2
           replace p318 := eq_true p318
           replace q318 := eq_true q318
           go_wp2_with (first | ((with_reducible refine gate_dst (N := 6) rfl ?_); refine box_ 6 47 #[.int .i64 0, .int .i64 0, .int .i64 0] ?_; intro gb319 hg w12 hbox hb; have BK319 := Aside0.mk (hbox); have GW319 := G_ hg HB; have GE319 := G_ hg HB; have NB317_319 := Nl_ hg BK317; have NB319_317 := Ng_ hg BK317; replace BK317 := Bb_ BK317 hb; replace HB := Ls_ HB hb; clear hb hbox hg; have hnb13 := NB319_317.out; have hnc13 := NB317_319.out; have hcz14_0 : w12.cell? ⟨gb319, 0, none⟩ = some (.int .i64 0) := (blk_cell BK319.out 0).trans rfl; have hcz14_1 : w12.cell? ⟨gb319, 1, none⟩ = some (.int .i64 0) := (blk_cell BK319.out 1).trans rfl; have hcz14_2 : w12.cell? ⟨gb319, 2, none⟩ = some (.int .i64 0) := (blk_cell BK319.out 2).trans rfl; have hfz14_0 := blk_frozen BK319.out 0; have hfz14_1 := blk_frozen BK319.out 1; have hfz14_2 := blk_frozen BK319.out 2))
           go_roundg k1
           case measure => have := HK1.out; omega
           case rel => exact ⟨(wrap64 (x10_1 + 1)), S_, H', ⟨by have := HK1.out; omega⟩, ⟨Bz_ BK317⟩, ⟨L_⟩⟩
       · rw [if_neg c7] at H
         exact absurd H (by simp)
     · rw [if_neg c6] at H
       exact absurd H (by simp)
   · rw [if_neg c5] at H
     have c5b0 : decide (x10_1 < (l0_2.length : Int)) = false := decide_eq_false c5
     clear c5
     obtain rfl := Option.some.inj H
     go_wp2
     go_ret
     exact ⟨E_, L_⟩

end Go.Proofs.Ytlddekjlmkimnaa.C
