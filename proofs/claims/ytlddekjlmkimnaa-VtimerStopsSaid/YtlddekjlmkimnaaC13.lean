import Derived.Test.YtlddekjlmkimnaaJ5
import Derived.Test.YtlddekjlmkimnaaJ6
import Derived.Test.YtlddekjlmkimnaaC11
import Derived.Test.YtlddekjlmkimnaaJ9
-- Written by a program of this session (wip/tools/stub.py, over the kit's print) and by hand; not the kit's print.
namespace Go.Proofs.Ytlddekjlmkimnaa.C
open Go.RowKit Go.Proofs.YtlddekjlmkimnaaW.PrintWords Go.Proofs.YtlddekjlmkimnaaW.PrintLast Go.Proofs.YtlddekjlmkimnaaW.PrintMore
attribute [local go_sem] max2_int min2_int max_two min_two max_three min_three max_four min_four   -- for this text's walks alone
set_option linter.unusedVariables false
set_option linter.unusedSimpArgs false

/-! ### wheel_Pass: function 34 -/
def wheel_Pass.l0 : Nat → Int → List (S88) → List (S88) → List (S88) → Int → Int → Option (Int × (List (S88)) × (List (S88)) × Int)
 | 0, _, _, _, _, _, _ => none
 | k + 1, x1, x8, x9, x20, x21, x22 => if x22 < x21 then (if 0 ≤ x22 then (if x22 < (x20.length : Int) then (if ((rd_T88 x20 x22).f1) ≤ x1 then (if x9.length < 8796093022208 then (wheel_Pass.l0 k x1 x8 (x9 ++ [(⟨(rd_T88 x20 x22).f0, (rd_T88 x20 x22).f1⟩ : S88)]) x20 x21 (wrap64 (x22 + 1))) else (none)) else (if x8.length < 8796093022208 then (wheel_Pass.l0 k x1 (x8 ++ [(⟨(rd_T88 x20 x22).f0, (rd_T88 x20 x22).f1⟩ : S88)]) x9 x20 x21 (wrap64 (x22 + 1))) else (none))) else (none)) else (none)) else ((wheel_sorted.f x9).bind fun t173 => (some (x1, x8, t173, 0)))
def wheel_Pass.f (k : Nat) (a0_0 : Int) (l0_1 : List (S88)) (a1 : Int) : Option (Int × (List (S88)) × (List (S88)) × Int) := (wheel_passes.f k a0_0 l0_1 a1).bind fun t164 => (if t164 = 0 then (wheel_Pass.l0 k a1 ([] : List (S88)) ([] : List (S88)) l0_1 (l0_1.length : Int) 0) else (some (0, ([] : List (S88)), ([] : List (S88)), t164)))
theorem wheel_Pass.mono_l : ∀ k, (∀ y0 y1 y2 y3 y4 y5, LeO (wheel_Pass.l0 k y0 y1 y2 y3 y4 y5) (wheel_Pass.l0 (k + 1) y0 y1 y2 y3 y4 y5))
 | 0 => fun _ _ _ _ _ _ r h => by simp [wheel_Pass.l0] at h
 | k + 1 => by
  have ih0 := wheel_Pass.mono_l k
  · intro y0 y1 y2 y3 y4 y5
    unfold wheel_Pass.l0
    repeat' first
    | (with_reducible exact ih0 _ _ _ _ _ _)
    | (with_reducible exact wheel_passes.mono _ _ _ _)
    | (with_reducible exact LeO.refl _)
    | (with_reducible exact LeO.none _)
    | (with_reducible refine LeO.ite ?_ ?_)
    | (with_reducible refine LeO.bind ?_ (fun _ => ?_))
    | exact ih0 _ _ _ _ _ _
    | exact wheel_passes.mono _ _ _ _
    | exact LeO.none _
    | refine LeO.ite ?_ ?_
    | refine LeO.bind ?_ (fun _ => ?_)
theorem wheel_Pass.mono : ∀ a0 a1 a2 k, LeO (wheel_Pass.f k a0 a1 a2) (wheel_Pass.f (k + 1) a0 a1 a2) := by
 intro a0 a1 a2 k
 have ih0 := wheel_Pass.mono_l k
 unfold wheel_Pass.f
 repeat' first
  | (with_reducible exact ih0 _ _ _ _ _ _)
  | (with_reducible exact wheel_passes.mono _ _ _ _)
  | (with_reducible exact LeO.refl _)
  | (with_reducible exact LeO.none _)
  | (with_reducible refine LeO.ite ?_ ?_)
  | (with_reducible refine LeO.bind ?_ (fun _ => ?_))
  | exact ih0 _ _ _ _ _ _
  | exact wheel_passes.mono _ _ _ _
  | exact LeO.none _
  | refine LeO.ite ?_ ?_
  | refine LeO.bind ?_ (fun _ => ?_)
set_option maxHeartbeats 8000000 in
set_option maxRecDepth 100000 in
theorem wheel_Pass.calls (k : Nat) (a0_0 : Int) (A0_1 : Option Addr) (c0_1 : Nat) (l0_1 : List (S88)) (a1 : Int) (r1 : Int) (r2 : List (S88)) (r3 : List (S88)) (r4 : Int) (w : World) (hr0_1 : Kd.C k88 w A0_1 l0_1.length l0_1) (hc0_1 : l0_1.length ≤ c0_1) (h : wheel_Pass.f k a0_0 l0_1 a1 = some (r1, r2, r3, r4)) :
 Calls Try.prog 34 #[.agg #[.int .i64 a0_0, .slice A0_1 l0_1.length c0_1], .int .i64 a1] w fun e w' => ∃ v1_ v2_ : Value, e = .returned (.tuple #[.agg #[.int .i64 r1, v1_], v2_, .int .i64 r4]) ∧ Kd.R k88 88 w' w.heap.size (fun k_ => some k_ ≠ (v2_ : Value).ownBlock) v1_ r2 ∧ Kd.R k88 88 w' w.heap.size (fun k_ => some k_ ≠ (v1_ : Value).ownBlock) v2_ r3 ∧ Below w.heap.size w w' := by
 have hu24 := Try.underlying24
 have hu88 := Try.underlying88
 have HR0_1 := Aside0.mk hr0_1
 have HC0_1 := Aside0.mk hc0_1
 clear hr0_1 hc0_1
 have HB := Aside0.mk (Below.refl w.heap.size w)
 have H : ((wheel_passes.f k a0_0 l0_1 a1).bind fun t164 => (if t164 = 0 then (wheel_Pass.l0 k a1 ([] : List (S88)) ([] : List (S88)) l0_1 (l0_1.length : Int) 0) else (some (0, ([] : List (S88)), ([] : List (S88)), t164)))) = some (r1, r2, r3, r4) := h
 clear h
 replace H := Option.bind_eq_some_iff.mp H
 obtain ⟨t164, A30, H⟩ := H
 replace H : (if t164 = 0 then (wheel_Pass.l0 k a1 ([] : List (S88)) ([] : List (S88)) l0_1 (l0_1.length : Int) 0) else (some (0, ([] : List (S88)), ([] : List (S88)), t164))) = some (r1, r2, r3, r4) := H
 have A3 := Aside0.mk A30
 clear A30
 by_cases c4 : t164 = 0
 · rw [if_pos c4] at H
   have c4b0 : (t164 == 0) = true := beq_iff_eq.mpr c4
   have c4b1 : (t164 != 0) = false := bne_eq_false_iff_eq.mpr c4
   clear c4
   have H' := Aside0.mk H
   clear H
   go_enter Try.func34, Try.ntmps34
   go_wp2_with (first | ((with_reducible refine gate_dst (N := 2) rfl ?_); refine box_ 2 24 #[.int .i64 a0_0, .slice A0_1 l0_1.length c0_1] ?_; intro gb162 hg w5 hbox hb; have BK162 := Aside0.mk (hbox); have GW162 := G_ hg HB; have GE162 := G_ hg HB; replace HB := Ls_ HB hb; clear hb hbox hg) | ((with_reducible refine gate_dst (N := 4) rfl ?_); refine box_ 4 24 #[.int .i64 0, .slice none 0 0] ?_; intro gb163 hg w6 hbox hb; have BK163 := Aside0.mk (hbox); have GW163 := G_ hg HB; have GE163 := G_ hg HB; have NB162_163 := Nl_ hg BK162; have NB163_162 := Ng_ hg BK162; replace BK162 := Bb_ BK162 hb; replace HB := Ls_ HB hb; clear hb hbox hg; have hnb7 := NB162_163.out; have hnc7 := NB163_162.out; have hcz8_0 : w6.cell? ⟨gb162, 0, none⟩ = some (.int .i64 a0_0) := (blk_cell BK162.out 0).trans rfl; have hcz8_1 : w6.cell? ⟨gb162, 1, none⟩ = some (.slice A0_1 l0_1.length c0_1) := (blk_cell BK162.out 1).trans rfl; have hfz8_0 := blk_frozen BK162.out 0; have hfz8_1 := blk_frozen BK162.out 1) | ((with_reducible refine gate_callee (f := 62) rfl ?_); refine goesL_ (some 14) rfl rfl Try.func62 (by kernel_rfl) rfl #[.agg #[.int .i64 a0_0, .slice A0_1 l0_1.length c0_1], .int .i64 a1] rfl M_ ?_; (with_reducible refine (wheel_passes.calls k a0_0 _ _ l0_1 a1 t164 _ ?side1 ?side2 A3.out).mono ?_); (case side1 => exact C_ HR0_1); (case side2 => exact HC0_1.out); rintro e w9 ⟨rfl, hb⟩; refine ⟨_, rfl, ?_⟩; replace BK162 := Bb_ BK162 hb; replace BK163 := Bb_ BK163 hb; replace HB := Ls_ HB hb; (try clear hb); (try clear hb2); (try clear hk); (try clear hi); have hcz10_0 : w9.cell? ⟨gb162, 0, none⟩ = some (.int .i64 a0_0) := (blk_cell BK162.out 0).trans rfl; have hcz10_1 : w9.cell? ⟨gb162, 1, none⟩ = some (.slice A0_1 l0_1.length c0_1) := (blk_cell BK162.out 1).trans rfl; have hfz10_0 := blk_frozen BK162.out 0; have hfz10_1 := blk_frozen BK162.out 1))
   go_loopg [8, 9, 22] k (fun kq v8 v9 v22 w' => ∃ (x8_1 : List (S88)) (x9_1 : List (S88)) (x22_1 : Int), v22 = .int .i64 x22_1 ∧ Aside0 (wheel_Pass.l0 kq a1 x8_1 x9_1 l0_1 (l0_1.length : Int) x22_1 = some (r1, r2, r3, r4)) ∧ Aside0 (kq ≤ k) ∧ Aside0 (Kd.R k88 88 w' w.heap.size (fun k_ => some k_ ≠ (v9 : Value).ownBlock) v8 x8_1) ∧ Aside0 (Kd.R k88 88 w' w.heap.size (fun k_ => some k_ ≠ (v8 : Value).ownBlock) v9 x9_1) ∧ Aside0 (w'.heap[gb162]? = some (.cells #[.int .i64 a0_0, (.slice A0_1 l0_1.length c0_1)] 24 (0, 0))) ∧ Aside0 (w'.heap[gb163]? = some (.cells #[.int .i64 0, (.slice none 0 0)] 24 (0, 0))) ∧ Aside0 (Below w.heap.size w w'))
   case atStart => exact ⟨(([] : List (S88))), (([] : List (S88))), (0), S_, H', ⟨Nat.le_refl _⟩, ⟨by first | exact Kd.R_nil _ _ _ _ _ | exact Kd.N_nil _ _ _ _ _ | exact Kd.V_nil _ _ _ _ _ | exact Kd.Q_nil _ _ _ _ _ | exact Kd.S_nil _ _ _ _ _⟩, ⟨by first | exact Kd.R_nil _ _ _ _ _ | exact Kd.N_nil _ _ _ _ _ | exact Kd.V_nil _ _ _ _ _ | exact Kd.Q_nil _ _ _ _ _ | exact Kd.S_nil _ _ _ _ _⟩, ⟨B_ BK162⟩, ⟨B_ BK163⟩, ⟨L_⟩⟩
   case round =>
    clear H'
    try clear p2; try clear c3; try clear c4; try clear c4b0; try clear c4b1; try clear c6; try clear c7; try clear hcz10_0; try clear hcz10_1; try clear hcz8_0; try clear hcz8_1; try clear hfz10_0; try clear hfz10_1; try clear hfz8_0; try clear hfz8_1
    obtain ⟨x8_1, x9_1, x22_1, rfl, HA, HK1, HO_8, HO_9, BK162, BK163, HB⟩ := hrel
    cases gk with
    | zero => exact absurd HA.out (by simp [wheel_Pass.l0])
    | succ k1 =>
     have H := HA.out
     clear HA
     simp only [wheel_Pass.l0] at H
     by_cases c11 : x22_1 < (l0_1.length : Int)
     · rw [if_pos c11] at H
       have c11b0 : decide (x22_1 < (l0_1.length : Int)) = true := decide_eq_true c11
       clear c11
       by_cases c12 : 0 ≤ x22_1
       · rw [if_pos c12] at H
         have c12b0 : decide (0 ≤ x22_1) = true := decide_eq_true c12
         clear c12
         by_cases c13 : x22_1 < (l0_1.length : Int)
         · rw [if_pos c13] at H
           have c13b0 : decide (x22_1 < (l0_1.length : Int)) = true := decide_eq_true c13
           clear c13
           by_cases c14 : ((rd_T88 l0_1 x22_1).f1) ≤ a1
           · rw [if_pos c14] at H
             have c14b0 : decide (((rd_T88 l0_1 x22_1).f1) ≤ a1) = true := decide_eq_true c14
             clear c14
             by_cases c15 : x9_1.length < 8796093022208
             · rw [if_pos c15] at H
               have LMc15 := Aside0.mk c15
               clear c15
               obtain ⟨y167, hy167⟩ : ∃ y_ : List (S88), y_ = (x9_1 ++ [(⟨(rd_T88 l0_1 x22_1).f0, (rd_T88 l0_1 x22_1).f1⟩ : S88)]) := ⟨_, rfl⟩
               replace H : (wheel_Pass.l0 k1 a1 x8_1 y167 l0_1 (l0_1.length : Int) (wrap64 (x22_1 + 1))) = some (r1, r2, r3, r4) := by first | (rw [hy167]; with_reducible exact H) | (have H2_ := (Option.bind_some _ _).symm.trans H; rw [hy167]; with_reducible exact H2_) | (have H2_ := (Option.bind_some _ _).symm.trans H; with_reducible exact H2_) | with_reducible exact H | (rw [hy167]; exact H) | exact H
               have Ny167 := Aside0.mk hy167
               clear hy167
               have H' := Aside0.mk H
               clear H
               have p165 : 0 ≤ (x22_1 : Int) := of_decide_eq_true As_
               have q165 : x22_1 < (l0_1.length : Int) := of_decide_eq_true As_
               obtain ⟨ad165, e165, hx165_0, hx165_1⟩ := at_T88 HR0_1.out x22_1 p165 q165
               cases e165
               replace hx165_0 := Hx_ HB hx165_0
               replace hx165_1 := Hx_ HB hx165_1
               replace p165 := eq_true p165
               replace q165 := eq_true q165
               go_wp2_with (first | ((with_reducible refine gate_dst (N := 11) rfl ?_); refine box_ 11 88 #[.int .i64 0, .int .i64 0] ?_; intro gb166 hg w16 hbox hb; have BK166 := Aside0.mk (hbox); have GW166 := G_ hg HB; have GE166 := G_ hg HB; have NB162_166 := Nl_ hg BK162; have NB166_162 := Ng_ hg BK162; have NB163_166 := Nl_ hg BK163; have NB166_163 := Ng_ hg BK163; replace HO_8 := Aside0.mk (Kd.R_below (Kd.R_elderB (R_ HO_8) gb166 (Nat.le_of_eq hg.symm)) hb); replace HO_9 := Aside0.mk (Kd.R_below (Kd.R_elderB (R_ HO_9) gb166 (Nat.le_of_eq hg.symm)) hb); replace BK162 := Bb_ BK162 hb; replace BK163 := Bb_ BK163 hb; replace HB := Ls_ HB hb; clear hb hbox hg; have hnb17 := NB166_162.out; have hnc17 := NB162_166.out; have hnb18 := NB166_163.out; have hnc18 := NB163_166.out; have hcz19_0 : w16.cell? ⟨gb166, 0, none⟩ = some (.int .i64 0) := (blk_cell BK166.out 0).trans rfl; have hcz19_1 : w16.cell? ⟨gb166, 1, none⟩ = some (.int .i64 0) := (blk_cell BK166.out 1).trans rfl; have hfz19_0 := blk_frozen BK166.out 0; have hfz19_1 := blk_frozen BK166.out 1) | ((with_reducible refine gate_builtin (b := .append) (xs := #[.tmp 30, .tmp 32]) rfl ?_); at_builtin; refine Kd.R_append k88 (w0 := w) w.heap.size rfl (.tmp 30) (.tmp 32) 22 88 (.agg #[(.int .i64 0), (.int .i64 0)]) 16 rfl Try.underlying22 info88 rfl (by decide) (by omega) u9 x9_1 (⟨(rd_T88 l0_1 x22_1).f0, (rd_T88 l0_1 x22_1).f1⟩ : S88) [.int .i64 ((rd_T88 l0_1 x22_1).f0), .int .i64 ((rd_T88 l0_1 x22_1).f1)] (fun k_ => some k_ ≠ (u8 : Value).ownBlock ∧ k_ ≠ gb166) (fun _ => False) rfl (by first | (go_simp; done) | (go_simp; rfl)) ?aP (fun _ hk => hk.elim) ?aF ?aO ?aB ?aS ?aL ?_; (case aP => exact k88_mkM _ _ _ (⟨(rd_T88 l0_1 x22_1).f0, (rd_T88 l0_1 x22_1).f1⟩ : S88)); (case aB => exact L_); (case aF => exact (fun k_ hk => ⟨Kd.fresh' (Kd.R_lt (by (with_reducible repeat (first | apply Kd.R_alloc | apply Kd.R_drewN | apply Kd.R_drew)); exact (Kd.R_mono (Kd.R_far (p := ⟨gb166, 1, none⟩) (Kd.R_far (p := ⟨gb166, 0, none⟩) (Kd.R_mono HO_8.out (fun k_ hk => (⟨hk, hk.2⟩ : _ ∧ k_ ≠ gb166))) (fun _ hk => hk.2) (.int .i64 ((rd_T88 l0_1 x22_1).f0))) (fun _ hk => hk.2) (.int .i64 ((rd_T88 l0_1 x22_1).f1))) (fun _ h_ => h_.1)))) k_ hk, Kd.freshB (g := gb166) (o := .cells #[.int .i64 ((rd_T88 l0_1 x22_1).f0), .int .i64 ((rd_T88 l0_1 x22_1).f1)] 88 (0, 0)) (by (with_reducible repeat (first | refine blk_drewN ?_ _ | refine blk_drew ?_ | refine blk_alloc ?_ _)); refine blk_put (cs := #[.int .i64 ((rd_T88 l0_1 x22_1).f0), .int .i64 0]) ?_ 1 _ rfl; (with_reducible repeat (first | refine blk_drewN ?_ _ | refine blk_drew ?_ | refine blk_alloc ?_ _)); refine blk_put (cs := #[.int .i64 0, .int .i64 0]) ?_ 0 _ rfl; (with_reducible repeat (first | refine blk_drewN ?_ _ | refine blk_drew ?_ | refine blk_alloc ?_ _)); exact BK166.out) k_ hk⟩)); (case aO => exact (by (with_reducible repeat (first | apply Kd.R_alloc | apply Kd.R_drewN | apply Kd.R_drew)); exact Kd.R_mono (Kd.R_far (p := ⟨gb166, 1, none⟩) (Kd.R_far (p := ⟨gb166, 0, none⟩) (Kd.R_mono HO_9.out (fun k_ hk => (⟨hk, hk.2⟩ : _ ∧ k_ ≠ gb166))) (fun _ hk => hk.2) (.int .i64 ((rd_T88 l0_1 x22_1).f0))) (fun _ hk => hk.2) (.int .i64 ((rd_T88 l0_1 x22_1).f1))) (fun _ hk => ⟨hk.1.1, hk.1.2⟩))); (case aS => exact (below_size L_)); (case aL => have := LMc15.out; omega); intro v168 w20 ho hb hg hat; rw [← Ny167.out] at ho; have HO169 := Aside0.mk (ho); replace HO_8 := Aside0.mk (Kd.R_after (ok := (fun k_ => k_ ≠ gb166)) (by (with_reducible repeat (first | apply Kd.R_alloc | apply Kd.R_drewN | apply Kd.R_drew)); exact Kd.R_mono (Kd.R_far (p := ⟨gb166, 1, none⟩) (Kd.R_far (p := ⟨gb166, 0, none⟩) (Kd.R_mono HO_8.out (fun k_ hk => (⟨hk, hk.2⟩ : _ ∧ k_ ≠ gb166))) (fun _ hk => hk.2) (.int .i64 ((rd_T88 l0_1 x22_1).f0))) (fun _ hk => hk.2) (.int .i64 ((rd_T88 l0_1 x22_1).f1))) (fun _ hk => ⟨hk.1.2, hk.1.1⟩)) hg hat); replace BK162 := Aside0.mk (blk_grown (g := gb162) (o := .cells #[.int .i64 a0_0, .slice (some ad165) l0_1.length c0_1] 24 (0, 0)) (Bz_ BK162) hg (Kd.R_ne HO_9.out BK162.out (by decide))); replace BK163 := Aside0.mk (blk_grown (g := gb163) (o := .cells #[.int .i64 0, .slice none 0 0] 24 (0, 0)) (Bz_ BK163) hg (Kd.R_ne HO_9.out BK163.out (by decide))); replace BK166 := Aside0.mk (blk_grown (g := gb166) (o := .cells #[.int .i64 ((rd_T88 l0_1 x22_1).f0), .int .i64 ((rd_T88 l0_1 x22_1).f1)] 88 (0, 0)) (by (with_reducible repeat (first | refine blk_drewN ?_ _ | refine blk_drew ?_ | refine blk_alloc ?_ _)); refine blk_put (cs := #[.int .i64 ((rd_T88 l0_1 x22_1).f0), .int .i64 0]) ?_ 1 _ rfl; (with_reducible repeat (first | refine blk_drewN ?_ _ | refine blk_drew ?_ | refine blk_alloc ?_ _)); refine blk_put (cs := #[.int .i64 0, .int .i64 0]) ?_ 0 _ rfl; (with_reducible repeat (first | refine blk_drewN ?_ _ | refine blk_drew ?_ | refine blk_alloc ?_ _)); exact BK166.out) hg (Kd.R_away HO_9.out (fun _ hk => hk.2))); replace HB := Aside0.mk (hb); clear HO_9; clear ho hb hg hat))
               go_roundg k1
               case measure => have := HK1.out; omega
               case rel => exact ⟨(x8_1), (y167), (wrap64 (x22_1 + 1)), S_, H', ⟨by have := HK1.out; omega⟩, ⟨by (with_reducible repeat (first | apply Kd.R_alloc | apply Kd.R_drewN | apply Kd.R_drew)); exact Kd.R_mono HO_8.out (fun _ hk => hk.2)⟩, ⟨by (with_reducible repeat (first | apply Kd.R_alloc | apply Kd.R_drewN | apply Kd.R_drew)); exact Kd.R_mono HO169.out (fun _ hk => hk.1)⟩, ⟨B_ BK162⟩, ⟨B_ BK163⟩, ⟨L_⟩⟩
             · rw [if_neg c15] at H
               exact absurd H (by simp)
           · rw [if_neg c14] at H
             have c14b0 : decide (((rd_T88 l0_1 x22_1).f1) ≤ a1) = false := decide_eq_false c14
             clear c14
             by_cases c21 : x8_1.length < 8796093022208
             · rw [if_pos c21] at H
               have LMc21 := Aside0.mk c21
               clear c21
               obtain ⟨y170, hy170⟩ : ∃ y_ : List (S88), y_ = (x8_1 ++ [(⟨(rd_T88 l0_1 x22_1).f0, (rd_T88 l0_1 x22_1).f1⟩ : S88)]) := ⟨_, rfl⟩
               replace H : (wheel_Pass.l0 k1 a1 y170 x9_1 l0_1 (l0_1.length : Int) (wrap64 (x22_1 + 1))) = some (r1, r2, r3, r4) := by first | (rw [hy170]; with_reducible exact H) | (have H2_ := (Option.bind_some _ _).symm.trans H; rw [hy170]; with_reducible exact H2_) | (have H2_ := (Option.bind_some _ _).symm.trans H; with_reducible exact H2_) | with_reducible exact H | (rw [hy170]; exact H) | exact H
               have Ny170 := Aside0.mk hy170
               clear hy170
               have H' := Aside0.mk H
               clear H
               have p165 : 0 ≤ (x22_1 : Int) := of_decide_eq_true As_
               have q165 : x22_1 < (l0_1.length : Int) := of_decide_eq_true As_
               obtain ⟨ad165, e165, hx165_0, hx165_1⟩ := at_T88 HR0_1.out x22_1 p165 q165
               cases e165
               replace hx165_0 := Hx_ HB hx165_0
               replace hx165_1 := Hx_ HB hx165_1
               replace p165 := eq_true p165
               replace q165 := eq_true q165
               go_wp2_with (first | ((with_reducible refine gate_dst (N := 11) rfl ?_); refine box_ 11 88 #[.int .i64 0, .int .i64 0] ?_; intro gb166 hg w22 hbox hb; have BK166 := Aside0.mk (hbox); have GW166 := G_ hg HB; have GE166 := G_ hg HB; have NB162_166 := Nl_ hg BK162; have NB166_162 := Ng_ hg BK162; have NB163_166 := Nl_ hg BK163; have NB166_163 := Ng_ hg BK163; replace HO_8 := Aside0.mk (Kd.R_below (Kd.R_elderB (R_ HO_8) gb166 (Nat.le_of_eq hg.symm)) hb); replace HO_9 := Aside0.mk (Kd.R_below (Kd.R_elderB (R_ HO_9) gb166 (Nat.le_of_eq hg.symm)) hb); replace BK162 := Bb_ BK162 hb; replace BK163 := Bb_ BK163 hb; replace HB := Ls_ HB hb; clear hb hbox hg; have hnb23 := NB166_162.out; have hnc23 := NB162_166.out; have hnb24 := NB166_163.out; have hnc24 := NB163_166.out; have hcz25_0 : w22.cell? ⟨gb166, 0, none⟩ = some (.int .i64 0) := (blk_cell BK166.out 0).trans rfl; have hcz25_1 : w22.cell? ⟨gb166, 1, none⟩ = some (.int .i64 0) := (blk_cell BK166.out 1).trans rfl; have hfz25_0 := blk_frozen BK166.out 0; have hfz25_1 := blk_frozen BK166.out 1) | ((with_reducible refine gate_builtin (b := .append) (xs := #[.tmp 34, .tmp 36]) rfl ?_); at_builtin; refine Kd.R_append k88 (w0 := w) w.heap.size rfl (.tmp 34) (.tmp 36) 22 88 (.agg #[(.int .i64 0), (.int .i64 0)]) 16 rfl Try.underlying22 info88 rfl (by decide) (by omega) u8 x8_1 (⟨(rd_T88 l0_1 x22_1).f0, (rd_T88 l0_1 x22_1).f1⟩ : S88) [.int .i64 ((rd_T88 l0_1 x22_1).f0), .int .i64 ((rd_T88 l0_1 x22_1).f1)] (fun k_ => some k_ ≠ (u9 : Value).ownBlock ∧ k_ ≠ gb166) (fun _ => False) rfl (by first | (go_simp; done) | (go_simp; rfl)) ?aP (fun _ hk => hk.elim) ?aF ?aO ?aB ?aS ?aL ?_; (case aP => exact k88_mkM _ _ _ (⟨(rd_T88 l0_1 x22_1).f0, (rd_T88 l0_1 x22_1).f1⟩ : S88)); (case aB => exact L_); (case aF => exact (fun k_ hk => ⟨Kd.fresh' (Kd.R_lt (by (with_reducible repeat (first | apply Kd.R_alloc | apply Kd.R_drewN | apply Kd.R_drew)); exact (Kd.R_mono (Kd.R_far (p := ⟨gb166, 1, none⟩) (Kd.R_far (p := ⟨gb166, 0, none⟩) (Kd.R_mono HO_9.out (fun k_ hk => (⟨hk, hk.2⟩ : _ ∧ k_ ≠ gb166))) (fun _ hk => hk.2) (.int .i64 ((rd_T88 l0_1 x22_1).f0))) (fun _ hk => hk.2) (.int .i64 ((rd_T88 l0_1 x22_1).f1))) (fun _ h_ => h_.1)))) k_ hk, Kd.freshB (g := gb166) (o := .cells #[.int .i64 ((rd_T88 l0_1 x22_1).f0), .int .i64 ((rd_T88 l0_1 x22_1).f1)] 88 (0, 0)) (by (with_reducible repeat (first | refine blk_drewN ?_ _ | refine blk_drew ?_ | refine blk_alloc ?_ _)); refine blk_put (cs := #[.int .i64 ((rd_T88 l0_1 x22_1).f0), .int .i64 0]) ?_ 1 _ rfl; (with_reducible repeat (first | refine blk_drewN ?_ _ | refine blk_drew ?_ | refine blk_alloc ?_ _)); refine blk_put (cs := #[.int .i64 0, .int .i64 0]) ?_ 0 _ rfl; (with_reducible repeat (first | refine blk_drewN ?_ _ | refine blk_drew ?_ | refine blk_alloc ?_ _)); exact BK166.out) k_ hk⟩)); (case aO => exact (by (with_reducible repeat (first | apply Kd.R_alloc | apply Kd.R_drewN | apply Kd.R_drew)); exact Kd.R_mono (Kd.R_far (p := ⟨gb166, 1, none⟩) (Kd.R_far (p := ⟨gb166, 0, none⟩) (Kd.R_mono HO_8.out (fun k_ hk => (⟨hk, hk.2⟩ : _ ∧ k_ ≠ gb166))) (fun _ hk => hk.2) (.int .i64 ((rd_T88 l0_1 x22_1).f0))) (fun _ hk => hk.2) (.int .i64 ((rd_T88 l0_1 x22_1).f1))) (fun _ hk => ⟨hk.1.1, hk.1.2⟩))); (case aS => exact (below_size L_)); (case aL => have := LMc21.out; omega); intro v171 w26 ho hb hg hat; rw [← Ny170.out] at ho; have HO172 := Aside0.mk (ho); replace HO_9 := Aside0.mk (Kd.R_after (ok := (fun k_ => k_ ≠ gb166)) (by (with_reducible repeat (first | apply Kd.R_alloc | apply Kd.R_drewN | apply Kd.R_drew)); exact Kd.R_mono (Kd.R_far (p := ⟨gb166, 1, none⟩) (Kd.R_far (p := ⟨gb166, 0, none⟩) (Kd.R_mono HO_9.out (fun k_ hk => (⟨hk, hk.2⟩ : _ ∧ k_ ≠ gb166))) (fun _ hk => hk.2) (.int .i64 ((rd_T88 l0_1 x22_1).f0))) (fun _ hk => hk.2) (.int .i64 ((rd_T88 l0_1 x22_1).f1))) (fun _ hk => ⟨hk.1.2, hk.1.1⟩)) hg hat); replace BK162 := Aside0.mk (blk_grown (g := gb162) (o := .cells #[.int .i64 a0_0, .slice (some ad165) l0_1.length c0_1] 24 (0, 0)) (Bz_ BK162) hg (Kd.R_ne HO_8.out BK162.out (by decide))); replace BK163 := Aside0.mk (blk_grown (g := gb163) (o := .cells #[.int .i64 0, .slice none 0 0] 24 (0, 0)) (Bz_ BK163) hg (Kd.R_ne HO_8.out BK163.out (by decide))); replace BK166 := Aside0.mk (blk_grown (g := gb166) (o := .cells #[.int .i64 ((rd_T88 l0_1 x22_1).f0), .int .i64 ((rd_T88 l0_1 x22_1).f1)] 88 (0, 0)) (by (with_reducible repeat (first | refine blk_drewN ?_ _ | refine blk_drew ?_ | refine blk_alloc ?_ _)); refine blk_put (cs := #[.int .i64 ((rd_T88 l0_1 x22_1).f0), .int .i64 0]) ?_ 1 _ rfl; (with_reducible repeat (first | refine blk_drewN ?_ _ | refine blk_drew ?_ | refine blk_alloc ?_ _)); refine blk_put (cs := #[.int .i64 0, .int .i64 0]) ?_ 0 _ rfl; (with_reducible repeat (first | refine blk_drewN ?_ _ | refine blk_drew ?_ | refine blk_alloc ?_ _)); exact BK166.out) hg (Kd.R_away HO_8.out (fun _ hk => hk.2))); replace HB := Aside0.mk (hb); clear HO_8; clear ho hb hg hat))
               go_roundg k1
               case measure => have := HK1.out; omega
               case rel => exact ⟨(y170), (x9_1), (wrap64 (x22_1 + 1)), S_, H', ⟨by have := HK1.out; omega⟩, ⟨by (with_reducible repeat (first | apply Kd.R_alloc | apply Kd.R_drewN | apply Kd.R_drew)); exact Kd.R_mono HO172.out (fun _ hk => hk.1)⟩, ⟨by (with_reducible repeat (first | apply Kd.R_alloc | apply Kd.R_drewN | apply Kd.R_drew)); exact Kd.R_mono HO_9.out (fun _ hk => hk.2)⟩, ⟨B_ BK162⟩, ⟨B_ BK163⟩, ⟨L_⟩⟩
             · rw [if_neg c21] at H
               exact absurd H (by simp)
         · rw [if_neg c13] at H
           exact absurd H (by simp)
       · rw [if_neg c12] at H
         exact absurd H (by simp)
     · rw [if_neg c11] at H
       have c11b0 : decide (x22_1 < (l0_1.length : Int)) = false := decide_eq_false c11
       clear c11
       replace H := Option.bind_eq_some_iff.mp H
       obtain ⟨t173, A270, H⟩ := H
       replace H : (some (a1, x8_1, t173, 0)) = some (r1, r2, r3, r4) := H
       have A27 := Aside0.mk A270
       clear A270
       simp only [Option.some.injEq, Prod.mk.injEq] at H
       obtain ⟨rfl, rfl, rfl, rfl⟩ := H
       obtain ⟨Ao28, co28, eo28⟩ := Kd.R_slice HO_8.out
       subst eo28
       obtain ⟨Ao29, co29, eo29⟩ := Kd.R_slice HO_9.out
       subst eo29
       go_wp2_with (first | ((with_reducible refine gate_callee (f := 63) rfl ?_); refine goesL_ (some 43) rfl rfl Try.func63 (by kernel_rfl) rfl #[.slice Ao29 x9_1.length co29] rfl M_ ?_; (with_reducible refine (wheel_sorted.calls (fun k_ => some k_ = (.slice Ao29 x9_1.length co29 : Value).ownBlock) (.slice Ao29 x9_1.length co29) x9_1 t173 w _ ?side1 ?side2 A27.out).mono ?_); (case side1 => repeat (first | (with_reducible first | exact HB.out | apply below_alloc | apply pw_below_drewN | apply below_drew1 | refine below_set ?_ GE162.out | refine below_set ?_ GE163.out) | exact HB.out)); (case side2 => exact Kd.R_tight rfl HO_9.out); rintro e w30 ⟨v174, rfl, ho0, hb, hkp⟩; refine ⟨_, rfl, ?_⟩; have HO175 := Aside0.mk (Kd.R_mono (ok' := fun k_ => some k_ ≠ (.slice Ao28 x8_1.length co28 : Value).ownBlock) ho0 (fun k_ hk_ => Or.elim hk_ (fun hs_ => fun e_ => (((HO_8.out).1 k_ e_.symm)) hs_) (fun hn_ => (Kd.fresh' (Kd.R_lt (R_ HO_8)) k_ hn_)))); replace HO_8 := Aside0.mk (Kd.R_mono (ok' := fun k_ => some k_ ≠ (v174 : Value).ownBlock) (Kd.R_keptB (HO_8.out) hkp (fun k_ hk_ hs_ => (hk_) hs_)) (fun k_ hk_ => fun e_ => Or.elim (ho0.1 k_ e_.symm) (fun hs_ => hk_.2.1 hs_) (fun hn_ => Nat.not_le.2 hk_.2.2 hn_))); replace BK162 := Aside0.mk (blk_kept (B_ BK162) hkp (fun hs_ => (fun e_ => (Kd.R_ne HO_9.out BK162.out (by decide)) e_) hs_)); replace BK163 := Aside0.mk (blk_kept (B_ BK163) hkp (fun hs_ => (fun e_ => (Kd.R_ne HO_9.out BK163.out (by decide)) e_) hs_)); replace HB := Aside0.mk (hb); clear HO_9; (try clear hb); (try clear hkp); (try clear ho0); have hnb31 := NB163_162.out; have hnc31 := NB162_163.out; have hcz32_0 : w30.cell? ⟨gb163, 0, none⟩ = some (.int .i64 0) := (blk_cell BK163.out 0).trans rfl; have hcz32_1 : w30.cell? ⟨gb163, 1, none⟩ = some (.slice none 0 0) := (blk_cell BK163.out 1).trans rfl; have hfz32_0 := blk_frozen BK163.out 0; have hfz32_1 := blk_frozen BK163.out 1))
       refine bodyPost_ret (results_ctt rfl _ _ gb163 24 #[.int .i64 a1, .slice Ao28 x8_1.length co28] (0, 0) _ rfl (by (with_reducible repeat (first | refine blk_drewN ?_ _ | refine blk_drew ?_ | refine blk_alloc ?_ _)); refine blk_put (cs := #[.int .i64 a1, .slice none 0 0]) ?_ 1 _ rfl; (with_reducible repeat (first | refine blk_drewN ?_ _ | refine blk_drew ?_ | refine blk_alloc ?_ _)); refine blk_put (cs := #[.int .i64 0, .slice none 0 0]) ?_ 0 _ rfl; (with_reducible repeat (first | refine blk_drewN ?_ _ | refine blk_drew ?_ | refine blk_alloc ?_ _)); exact BK163.out) Try.underlying24 rfl (by kernel_rfl)) rfl ?_
       exact ⟨_, _, E_, by (with_reducible repeat (first | apply Kd.R_alloc | apply Kd.R_drewN | apply Kd.R_drew)); exact Kd.R_mono (Kd.R_far (p := ⟨gb163, 1, none⟩) (Kd.R_far (p := ⟨gb163, 0, none⟩) (Kd.R_types HO_8.out BK163.out (by decide)) (fun _ hk => hk.2) (.int .i64 a1)) (fun _ hk => hk.2) (.slice Ao28 x8_1.length co28)) (fun _ hk => hk.1), by (with_reducible repeat (first | apply Kd.R_alloc | apply Kd.R_drewN | apply Kd.R_drew)); exact Kd.R_mono (Kd.R_far (p := ⟨gb163, 1, none⟩) (Kd.R_far (p := ⟨gb163, 0, none⟩) (Kd.R_types HO175.out BK163.out (by decide)) (fun _ hk => hk.2) (.int .i64 a1)) (fun _ hk => hk.2) (.slice Ao28 x8_1.length co28)) (fun _ hk => hk.1), L_⟩
 · rw [if_neg c4] at H
   have c4b0 : (t164 == 0) = false := beq_eq_false_iff_ne.mpr c4
   have c4b1 : (t164 != 0) = true := bne_iff_ne.mpr c4
   simp only [Option.some.injEq, Prod.mk.injEq] at H
   obtain ⟨rfl, rfl, rfl, rfl⟩ := H
   go_enter Try.func34, Try.ntmps34
   go_wp2_with (first | ((with_reducible refine gate_dst (N := 2) rfl ?_); refine box_ 2 24 #[.int .i64 a0_0, .slice A0_1 l0_1.length c0_1] ?_; intro gb162 hg w33 hbox hb; have BK162 := Aside0.mk (hbox); have GW162 := G_ hg HB; have GE162 := G_ hg HB; replace HB := Ls_ HB hb; clear hb hbox hg) | ((with_reducible refine gate_dst (N := 4) rfl ?_); refine box_ 4 24 #[.int .i64 0, .slice none 0 0] ?_; intro gb163 hg w34 hbox hb; have BK163 := Aside0.mk (hbox); have GW163 := G_ hg HB; have GE163 := G_ hg HB; have NB162_163 := Nl_ hg BK162; have NB163_162 := Ng_ hg BK162; replace BK162 := Bb_ BK162 hb; replace HB := Ls_ HB hb; clear hb hbox hg; have hnb35 := NB162_163.out; have hnc35 := NB163_162.out; have hcz36_0 : w34.cell? ⟨gb162, 0, none⟩ = some (.int .i64 a0_0) := (blk_cell BK162.out 0).trans rfl; have hcz36_1 : w34.cell? ⟨gb162, 1, none⟩ = some (.slice A0_1 l0_1.length c0_1) := (blk_cell BK162.out 1).trans rfl; have hfz36_0 := blk_frozen BK162.out 0; have hfz36_1 := blk_frozen BK162.out 1) | ((with_reducible refine gate_callee (f := 62) rfl ?_); refine goesL_ (some 14) rfl rfl Try.func62 (by kernel_rfl) rfl #[.agg #[.int .i64 a0_0, .slice A0_1 l0_1.length c0_1], .int .i64 a1] rfl M_ ?_; (with_reducible refine (wheel_passes.calls k a0_0 _ _ l0_1 a1 t164 _ ?side1 ?side2 A3.out).mono ?_); (case side1 => exact C_ HR0_1); (case side2 => exact HC0_1.out); rintro e w37 ⟨rfl, hb⟩; refine ⟨_, rfl, ?_⟩; replace BK162 := Bb_ BK162 hb; replace BK163 := Bb_ BK163 hb; replace HB := Ls_ HB hb; (try clear hb); (try clear hb2); (try clear hk); (try clear hi); have hcz38_0 : w37.cell? ⟨gb163, 0, none⟩ = some (.int .i64 0) := (blk_cell BK163.out 0).trans rfl; have hcz38_1 : w37.cell? ⟨gb163, 1, none⟩ = some (.slice none 0 0) := (blk_cell BK163.out 1).trans rfl; have hfz38_0 := blk_frozen BK163.out 0; have hfz38_1 := blk_frozen BK163.out 1))
   refine bodyPost_ret (results_ctt rfl _ _ gb163 24 #[.int .i64 0, .slice none 0 0] (0, 0) _ rfl (by (with_reducible repeat (first | refine blk_drewN ?_ _ | refine blk_drew ?_ | refine blk_alloc ?_ _)); refine blk_put (cs := #[.int .i64 0, .slice none 0 0]) ?_ 1 _ rfl; (with_reducible repeat (first | refine blk_drewN ?_ _ | refine blk_drew ?_ | refine blk_alloc ?_ _)); refine blk_put (cs := #[.int .i64 0, .slice none 0 0]) ?_ 0 _ rfl; (with_reducible repeat (first | refine blk_drewN ?_ _ | refine blk_drew ?_ | refine blk_alloc ?_ _)); exact BK163.out) Try.underlying24 rfl (by kernel_rfl)) rfl ?_
   exact ⟨_, _, E_, by first | exact Kd.R_nil _ _ _ _ _ | exact Kd.N_nil _ _ _ _ _ | exact Kd.V_nil _ _ _ _ _ | exact Kd.Q_nil _ _ _ _ _ | exact Kd.S_nil _ _ _ _ _, by first | exact Kd.R_nil _ _ _ _ _ | exact Kd.N_nil _ _ _ _ _ | exact Kd.V_nil _ _ _ _ _ | exact Kd.Q_nil _ _ _ _ _ | exact Kd.S_nil _ _ _ _ _, L_⟩

/-! ### mainsheetref18_Copy: function 26 -/
def mainsheetref18_Copy.f (a0_0 : Int) (l0_1 : List (S88)) (l0_2 : List (S47)) : Option (Int × (List (S88)) × (List (S47))) := (some (([] : List (S88)) : List (S88))).bind fun y178 => (if y178.length + l0_1.length < 8796093022208 then ((some (([] : List (S47)) : List (S47))).bind fun y184 => (if y184.length + l0_2.length < 5864062014805 then (some (a0_0, (y178 ++ l0_1), (y184 ++ l0_2))) else (none))) else (none))
def mainsheetref18_Copy.T1 : Bool × List (List Nat × List Nat) := (true, [([], []), ([], []), ([1], [1]), ([2], [2]), ([0, 3], [0, 3]), ([], []), ([], []), ([6], [6]), ([5, 7, 4], [5, 7]), ([0, 1, 2, 3, 4, 6, 7], []), ([9, 0, 1, 2, 3, 4, 6, 7], [9]), ([10, 4, 8, 0, 1, 2, 3, 4, 6, 7], [4, 10]), ([0, 1, 2, 3, 4, 5, 6, 7, 8, 9, 10, 11], []), ([12, 8, 11, 0, 1, 2, 3, 4, 5, 6, 7, 8, 9, 10, 11], [8, 12])])
def mainsheetref18_Copy.B1 : List Nat := [0, 0, 2, 6, 15, 0, 0, 64, 255, 223, 735, 2047, 4095, 8191]
theorem mainsheetref18_Copy.tab1 : rtab .any (opsOf Try.f26 1) = mainsheetref18_Copy.T1 := by kernel_rfl
theorem mainsheetref18_Copy.bits1 : waitsOk mainsheetref18_Copy.T1.2 mainsheetref18_Copy.B1 = true := by kernel_rfl
set_option maxHeartbeats 8000000 in
set_option maxRecDepth 100000 in
theorem mainsheetref18_Copy.calls (a0_0 : Int) (A0_1 : Option Addr) (c0_1 : Nat) (l0_1 : List (S88)) (A0_2 : Option Addr) (c0_2 : Nat) (l0_2 : List (S47)) (r1 : Int) (r2 : List (S88)) (r3 : List (S47)) (w : World) (hr0_1 : Kd.C k88 w A0_1 l0_1.length l0_1) (hc0_1 : l0_1.length ≤ c0_1) (hr0_2 : Kd.C k47 w A0_2 l0_2.length l0_2) (hc0_2 : l0_2.length ≤ c0_2) (h : mainsheetref18_Copy.f a0_0 l0_1 l0_2 = some (r1, r2, r3)) :
 Calls Try.prog 26 #[.agg #[.int .i64 a0_0, .slice A0_1 l0_1.length c0_1, .slice A0_2 l0_2.length c0_2]] w fun e w' => ∃ v1_ v2_ : Value, e = .returned (.agg #[.int .i64 r1, v1_, v2_]) ∧ Kd.R k88 88 w' w.heap.size (fun _ => True) v1_ r2 ∧ Kd.R k47 47 w' w.heap.size (fun _ => True) v2_ r3 ∧ Below w.heap.size w w' := by
 have hu27 := Try.underlying27
 have HR0_1 := Aside0.mk hr0_1
 have HC0_1 := Aside0.mk hc0_1
 clear hr0_1 hc0_1
 have HR0_2 := Aside0.mk hr0_2
 have HC0_2 := Aside0.mk hc0_2
 clear hr0_2 hc0_2
 have HB := Aside0.mk (Below.refl w.heap.size w)
 have H : ((some (([] : List (S88)) : List (S88))).bind fun y178 => (if y178.length + l0_1.length < 8796093022208 then ((some (([] : List (S47)) : List (S47))).bind fun y184 => (if y184.length + l0_2.length < 5864062014805 then (some (a0_0, (y178 ++ l0_1), (y184 ++ l0_2))) else (none))) else (none))) = some (r1, r2, r3) := h
 clear h
 obtain ⟨y178, hy178⟩ : ∃ y_ : List (S88), y_ = (([] : List (S88))) := ⟨_, rfl⟩
 replace H : (if y178.length + l0_1.length < 8796093022208 then ((some (([] : List (S47)) : List (S47))).bind fun y184 => (if y184.length + l0_2.length < 5864062014805 then (some (a0_0, (y178 ++ l0_1), (y184 ++ l0_2))) else (none))) else (none)) = some (r1, r2, r3) := by first | (rw [hy178]; with_reducible exact H) | (have H2_ := (Option.bind_some _ _).symm.trans H; rw [hy178]; with_reducible exact H2_) | (have H2_ := (Option.bind_some _ _).symm.trans H; with_reducible exact H2_) | with_reducible exact H | (rw [hy178]; exact H) | exact H
 have Ny178 := Aside0.mk hy178
 clear hy178
 by_cases c2 : y178.length + l0_1.length < 8796093022208
 · rw [if_pos c2] at H
   have LMc2 := Aside0.mk c2
   clear c2
   obtain ⟨y181, hy181⟩ : ∃ y_ : List (S88), y_ = (y178 ++ l0_1) := ⟨_, rfl⟩
   replace H : ((some (([] : List (S47)) : List (S47))).bind fun y184 => (if y184.length + l0_2.length < 5864062014805 then (some (a0_0, y181, (y184 ++ l0_2))) else (none))) = some (r1, r2, r3) := by first | (rw [hy181]; with_reducible exact H) | (have H2_ := (Option.bind_some _ _).symm.trans H; rw [hy181]; with_reducible exact H2_) | (have H2_ := (Option.bind_some _ _).symm.trans H; with_reducible exact H2_) | with_reducible exact H | (rw [hy181]; exact H) | exact H
   have Ny181 := Aside0.mk hy181
   clear hy181
   obtain ⟨y184, hy184⟩ : ∃ y_ : List (S47), y_ = (([] : List (S47))) := ⟨_, rfl⟩
   replace H : (if y184.length + l0_2.length < 5864062014805 then (some (a0_0, y181, (y184 ++ l0_2))) else (none)) = some (r1, r2, r3) := by first | (rw [hy184]; with_reducible exact H) | (have H2_ := (Option.bind_some _ _).symm.trans H; rw [hy184]; with_reducible exact H2_) | (have H2_ := (Option.bind_some _ _).symm.trans H; with_reducible exact H2_) | with_reducible exact H | (rw [hy184]; exact H) | exact H
   have Ny184 := Aside0.mk hy184
   clear hy184
   by_cases c3 : y184.length + l0_2.length < 5864062014805
   · rw [if_pos c3] at H
     have LMc3 := Aside0.mk c3
     clear c3
     obtain ⟨y187, hy187⟩ : ∃ y_ : List (S47), y_ = (y184 ++ l0_2) := ⟨_, rfl⟩
     replace H : (some (a0_0, y181, y187)) = some (r1, r2, r3) := by first | (rw [hy187]; with_reducible exact H) | (have H2_ := (Option.bind_some _ _).symm.trans H; rw [hy187]; with_reducible exact H2_) | (have H2_ := (Option.bind_some _ _).symm.trans H; with_reducible exact H2_) | with_reducible exact H | (rw [hy187]; exact H) | exact H
     have Ny187 := Aside0.mk hy187
     clear hy187
     simp only [Option.some.injEq, Prod.mk.injEq] at H
     obtain ⟨rfl, rfl, rfl⟩ := H
     go_enter Try.func26, Try.ntmps26
     try go_wp2_with (first | ((with_reducible refine gate_dst (N := 1) rfl ?_); refine box_ 1 27 #[.int .i64 a0_0, .slice A0_1 l0_1.length c0_1, .slice A0_2 l0_2.length c0_2] ?_; intro gb176 hg w4 hbox hb; have BK176 := Aside0.mk (hbox); have GW176 := G_ hg HB; have GE176 := G_ hg HB; replace HB := Ls_ HB hb; clear hb hbox hg) | ((with_reducible refine gate_dst (N := 2) rfl ?_); refine box_ 2 27 #[.int .i64 0, .slice none 0 0, .slice none 0 0] ?_; intro gb177 hg w5 hbox hb; have BK177 := Aside0.mk (hbox); have GW177 := G_ hg HB; have GE177 := G_ hg HB; have NB176_177 := Nl_ hg BK176; have NB177_176 := Ng_ hg BK176; replace BK176 := Bb_ BK176 hb; replace HB := Ls_ HB hb; clear hb hbox hg))
     have n0_ := Aside0.mk (blk_drew BK176.out)
     have n1_ := Aside0.mk (blk_drew BK177.out)
     have n2_ := Aside0.mk (below_drew1 HB.out)
     clear BK176
     clear BK177
     clear HB
     have BK176 := n0_
     have BK177 := n1_
     have HB := n2_
     clear n0_ n1_ n2_
     refine st_ 14 (fun w' => w'.cell? ⟨gb176, 0, none⟩ = some (.int .i64 a0_0) ∧ w'.cell? ⟨gb176, 1, none⟩ = some (.slice A0_1 l0_1.length c0_1) ∧ w'.cell? ⟨gb176, 2, none⟩ = some (.slice A0_2 l0_2.length c0_2)) [11, 13] ⟨(blk_cell BK176.out 0).trans rfl, (blk_cell BK176.out 1).trans rfl, (blk_cell BK176.out 2).trans rfl⟩ (fun hHeld => ?_); refine with_tabW mainsheetref18_Copy.tab1 mainsheetref18_Copy.bits1 (fun HT_ HW_ => ?_)
     generalize w5.drew = w6 at BK176 BK177 HB hHeld ⊢
     refine pu_ 1 4 HT_ ?_
     refine pu_ 2 5 HT_ ?_
     refine pu_ 6 9 HT_ ?_
     refine ta_ 3 6 HT_ HW_ rfl rfl hHeld (by rintro w' ⟨s0, s1, s2⟩; go_simp; with_reducible rfl) ?_
     refine ta_ 7 10 HT_ HW_ rfl rfl hHeld (by rintro w' ⟨s0, s1, s2⟩; go_simp; with_reducible rfl) ?_
     refine join_ (σ := Value × Value × Value) 4 #[true, true, true, true, true, true, true, true, false, true, true, false, false, false] (fun s_ => [(3, s_.1), (7, s_.2.1), (8, s_.2.2), (12, .pointer (some ⟨gb176, 0, none⟩)), (13, .pointer (some ⟨gb176, 1, none⟩))]) (fun s_ w' => (w'.cell? ⟨gb176, 0, none⟩ = some (.int .i64 a0_0) ∧ w'.cell? ⟨gb176, 1, none⟩ = some (.slice A0_1 l0_1.length c0_1) ∧ w'.cell? ⟨gb176, 2, none⟩ = some (.slice A0_2 l0_2.length c0_2)) ∧ (Kd.R k88 88 w' w.heap.size (fun _ => True) s_.2.1 y181) ∧ (Kd.R k47 47 w' w.heap.size (fun _ => True) s_.2.2 y184) ∧ (w'.heap[gb176]? = some (.cells #[.int .i64 a0_0, .slice A0_1 l0_1.length c0_1, .slice A0_2 l0_2.length c0_2] 27 (0, 0))) ∧ (w'.heap[gb177]? = some (.cells #[.int .i64 0, .slice none 0 0, .slice none 0 0] 27 (0, 0))) ∧ (Below w.heap.size w w')) ?_ ?_
     rotate_left
     · intro hCont
       refine two_ (i := 0) (j := 5) (Ni := some 3) (Nj := some 8) #[true, true, true, true, false, false, true, true, false, false, false, false, false, false] #[false, true, true, true, false, true, true, true, false, false, false, false, false, false] rfl rfl rfl rfl (two_of HT_.out (by kernel_rfl)) (by decide) (by decide) (fun K hK => ?_) (fun K hK => ?_)
       · skip
         refine Kd.R_lit_step k88 _ 88 ?hg (N := 3) ?hd (xs := ([] : List (S88))) (inner := []) (ok := fun _ => True) (okp := fun _ => True) ?hr ?hp (fun _ hk => hk) trivial (Below.refl _ _) (Nat.le_refl _) (by simp) ?_; (case hd => rfl); (case hg => rfl); (case hr => first | (go_simp; done) | (go_simp; rfl)); (case hp => exact (Reps.none _ _))
         intro v179 w7 ho8 hb hg_ hnew_
         clear hg_ hnew_
         (first | rw [← Ny178.out] at ho8 | (simp only [Int.reduceToNat] at ho8; rw [← Ny178.out] at ho8))
         have n0_ := Aside0.mk (Kd.R_lower ho8 (below_size L_))
         have n1_ := Bb_ BK176 hb
         have n2_ := Bb_ BK177 hb
         have n3_ := Ls_ HB hb
         clear BK176
         clear BK177
         clear HB
         have HO180 := n0_
         have BK176 := n1_
         have BK177 := n2_
         have HB := n3_
         clear n0_ n1_ n2_ n3_
         clear hb ho8
         refine hK.out _ _ ⟨(blk_cell BK176.out 0).trans rfl, (blk_cell BK176.out 1).trans rfl, (blk_cell BK176.out 2).trans rfl⟩ (fun hHeld => ?_)
         clear hK K
         refine nm_ 3 ?_
         refine two_ (i := 4) (j := 5) (Ni := some 7) (Nj := some 8) #[true, true, true, true, true, false, true, true, false, false, false, false, false, false] #[true, true, true, true, false, true, true, true, false, false, false, false, false, false] rfl rfl rfl rfl (two_of HT_.out (by kernel_rfl)) (by decide) (by decide) (fun K hK => ?_) (fun K hK => ?_)
         · skip
           refine Kd.R_append_rows_step k88 (w0 := w) w.heap.size (by rfl) (.tmp 3) (.tmp 6) 22 88 (.agg #[(.int .i64 0), (.int .i64 0)]) 16 rfl Try.underlying22 info88 rfl (by decide) (by omega) v179 y178 l0_1 _ _ _ (fun _ => True) (fun _ => False) rfl rfl ?aO ?aR (fun _ _ h => h) (fun _ h => h.elim) ?aF ?aB ?aS ?aL ?_
           (case aR => repeat (first | exact (Kd.C_below HR0_1.out HB.out) | (with_reducible refine Kd.C_alloc ?_ _) | (with_reducible refine Kd.C_drewN ?_ _) | (with_reducible refine Kd.C_drew ?_)))
           (case aB => exact L_)
           (case aF => exact (fun _ _ => trivial))
           (case aO => exact (R_ HO180))
           (case aS => exact (below_size L_))
           (case aL => have := LMc2.out; omega)
           intro v182 w9 ho hb hg hat
           rw [← Ny181.out] at ho
           have n0_ := Aside0.mk (blk_grown (g := gb176) (o := .cells #[.int .i64 a0_0, .slice A0_1 l0_1.length c0_1, .slice A0_2 l0_2.length c0_2] 27 (0, 0)) (B_ BK176) hg (Kd.R_ne HO180.out BK176.out (by decide)))
           have n1_ := Aside0.mk (blk_grown (g := gb177) (o := .cells #[.int .i64 0, .slice none 0 0, .slice none 0 0] 27 (0, 0)) (B_ BK177) hg (Kd.R_ne HO180.out BK177.out (by decide)))
           have n2_ := Aside0.mk (hb)
           have n3_ := Aside0.mk (ho)
           clear BK176
           clear BK177
           clear HB
           clear HO180
           have BK176 := n0_
           have BK177 := n1_
           have HB := n2_
           have HO183 := n3_
           clear n0_ n1_ n2_ n3_
           clear ho hb hg hat
           refine hK.out _ _ ⟨(blk_cell BK176.out 0).trans rfl, (blk_cell BK176.out 1).trans rfl, (blk_cell BK176.out 2).trans rfl⟩ (fun hHeld => ?_)
           clear hK K
           refine nm_ 7 ?_
           refine pu_ 9 12 HT_ ?_
           refine pu_ 10 13 HT_ ?_
           refine on_ 5 8 HT_ rfl rfl (fun K hK => ?_)
           refine Kd.R_lit_step k47 _ 47 ?hg (N := 8) ?hd (xs := ([] : List (S47))) (inner := []) (ok := fun _ => True) (okp := fun _ => True) ?hr ?hp (fun _ hk => hk) trivial (Below.refl _ _) (Nat.le_refl _) (by simp) ?_; (case hd => rfl); (case hg => rfl); (case hr => first | (go_simp; done) | (go_simp; rfl)); (case hp => exact (Reps.none _ _))
           intro v185 w10 ho11 hb hg_ hnew_
           clear hg_ hnew_
           (first | rw [← Ny184.out] at ho11 | (simp only [Int.reduceToNat] at ho11; rw [← Ny184.out] at ho11))
           have n0_ := Rb_ HO183 hb
           have n1_ := Aside0.mk (Kd.R_lower ho11 (below_size L_))
           have n2_ := Bb_ BK176 hb
           have n3_ := Bb_ BK177 hb
           have n4_ := Ls_ HB hb
           clear HO183
           clear BK176
           clear BK177
           clear HB
           have HO183 := n0_
           have HO186 := n1_
           have BK176 := n2_
           have BK177 := n3_
           have HB := n4_
           clear n0_ n1_ n2_ n3_ n4_
           clear hb ho11
           refine hK.out _ _ ⟨(blk_cell BK176.out 0).trans rfl, (blk_cell BK176.out 1).trans rfl, (blk_cell BK176.out 2).trans rfl⟩ (fun hHeld => ?_)
           clear hK K
           refine nm_ 8 ?_
           exact norm_ (by simp only [putAll, Act.put, List.setIfInBounds_toArray, List.set_cons_zero, List.set_cons_succ]) (hCont (v179, v182, v185) _ ⟨hHeld, (R_ HO183), (R_ HO186), (B_ BK176), (B_ BK177), L_⟩)
         · skip
           refine Kd.R_lit_step k47 _ 47 ?hg (N := 8) ?hd (xs := ([] : List (S47))) (inner := []) (ok := fun _ => True) (okp := fun _ => True) ?hr ?hp (fun _ hk => hk) trivial (Below.refl _ _) (Nat.le_refl _) (by simp) ?_; (case hd => rfl); (case hg => rfl); (case hr => first | (go_simp; done) | (go_simp; rfl)); (case hp => exact (Reps.none _ _))
           intro v185 w9 ho10 hb hg_ hnew_
           clear hg_ hnew_
           (first | rw [← Ny184.out] at ho10 | (simp only [Int.reduceToNat] at ho10; rw [← Ny184.out] at ho10))
           have n0_ := Rb_ HO180 hb
           have n1_ := Aside0.mk (Kd.R_lower ho10 (below_size L_))
           have n2_ := Bb_ BK176 hb
           have n3_ := Bb_ BK177 hb
           have n4_ := Ls_ HB hb
           clear HO180
           clear BK176
           clear BK177
           clear HB
           have HO180 := n0_
           have HO186 := n1_
           have BK176 := n2_
           have BK177 := n3_
           have HB := n4_
           clear n0_ n1_ n2_ n3_ n4_
           clear hb ho10
           refine hK.out _ _ ⟨(blk_cell BK176.out 0).trans rfl, (blk_cell BK176.out 1).trans rfl, (blk_cell BK176.out 2).trans rfl⟩ (fun hHeld => ?_)
           clear hK K
           refine nm_ 8 ?_
           refine on_ 4 7 HT_ rfl rfl (fun K hK => ?_)
           refine Kd.R_append_rows_step k88 (w0 := w) w.heap.size (by rfl) (.tmp 3) (.tmp 6) 22 88 (.agg #[(.int .i64 0), (.int .i64 0)]) 16 rfl Try.underlying22 info88 rfl (by decide) (by omega) v179 y178 l0_1 _ _ _ (fun _ => True) (fun _ => False) rfl rfl ?aO ?aR (fun _ _ h => h) (fun _ h => h.elim) ?aF ?aB ?aS ?aL ?_
           (case aR => repeat (first | exact (Kd.C_below HR0_1.out HB.out) | (with_reducible refine Kd.C_alloc ?_ _) | (with_reducible refine Kd.C_drewN ?_ _) | (with_reducible refine Kd.C_drew ?_)))
           (case aB => exact L_)
           (case aF => exact (fun _ _ => trivial))
           (case aO => exact (R_ HO180))
           (case aS => exact (below_size L_))
           (case aL => have := LMc2.out; omega)
           intro v182 w11 ho hb hg hat
           rw [← Ny181.out] at ho
           have n0_ := Aside0.mk (blk_grown (g := gb176) (o := .cells #[.int .i64 a0_0, .slice A0_1 l0_1.length c0_1, .slice A0_2 l0_2.length c0_2] 27 (0, 0)) (B_ BK176) hg (Kd.R_ne HO180.out BK176.out (by decide)))
           have n1_ := Aside0.mk (blk_grown (g := gb177) (o := .cells #[.int .i64 0, .slice none 0 0, .slice none 0 0] 27 (0, 0)) (B_ BK177) hg (Kd.R_ne HO180.out BK177.out (by decide)))
           have n2_ := Aside0.mk (Kd.R_over' (R_ HO186) (Kd.R_typed (R_ HO180)) (by decide) hg)
           have n3_ := Aside0.mk (hb)
           have n4_ := Aside0.mk (ho)
           clear BK176
           clear BK177
           clear HO186
           clear HB
           clear HO180
           have BK176 := n0_
           have BK177 := n1_
           have HO186 := n2_
           have HB := n3_
           have HO183 := n4_
           clear n0_ n1_ n2_ n3_ n4_
           clear ho hb hg hat
           refine hK.out _ _ ⟨(blk_cell BK176.out 0).trans rfl, (blk_cell BK176.out 1).trans rfl, (blk_cell BK176.out 2).trans rfl⟩ (fun hHeld => ?_)
           clear hK K
           refine nm_ 7 ?_
           refine pu_ 9 12 HT_ ?_
           refine pu_ 10 13 HT_ ?_
           exact norm_ (by simp only [putAll, Act.put, List.setIfInBounds_toArray, List.set_cons_zero, List.set_cons_succ]) (hCont (v179, v182, v185) _ ⟨hHeld, (R_ HO183), (R_ HO186), (B_ BK176), (B_ BK177), L_⟩)
       · skip
         refine Kd.R_lit_step k47 _ 47 ?hg (N := 8) ?hd (xs := ([] : List (S47))) (inner := []) (ok := fun _ => True) (okp := fun _ => True) ?hr ?hp (fun _ hk => hk) trivial (Below.refl _ _) (Nat.le_refl _) (by simp) ?_; (case hd => rfl); (case hg => rfl); (case hr => first | (go_simp; done) | (go_simp; rfl)); (case hp => exact (Reps.none _ _))
         intro v185 w7 ho8 hb hg_ hnew_
         clear hg_ hnew_
         (first | rw [← Ny184.out] at ho8 | (simp only [Int.reduceToNat] at ho8; rw [← Ny184.out] at ho8))
         have n0_ := Aside0.mk (Kd.R_lower ho8 (below_size L_))
         have n1_ := Bb_ BK176 hb
         have n2_ := Bb_ BK177 hb
         have n3_ := Ls_ HB hb
         clear BK176
         clear BK177
         clear HB
         have HO186 := n0_
         have BK176 := n1_
         have BK177 := n2_
         have HB := n3_
         clear n0_ n1_ n2_ n3_
         clear hb ho8
         refine hK.out _ _ ⟨(blk_cell BK176.out 0).trans rfl, (blk_cell BK176.out 1).trans rfl, (blk_cell BK176.out 2).trans rfl⟩ (fun hHeld => ?_)
         clear hK K
         refine nm_ 8 ?_
         refine on_ 0 3 HT_ rfl rfl (fun K hK => ?_)
         refine Kd.R_lit_step k88 _ 88 ?hg (N := 3) ?hd (xs := ([] : List (S88))) (inner := []) (ok := fun _ => True) (okp := fun _ => True) ?hr ?hp (fun _ hk => hk) trivial (Below.refl _ _) (Nat.le_refl _) (by simp) ?_; (case hd => rfl); (case hg => rfl); (case hr => first | (go_simp; done) | (go_simp; rfl)); (case hp => exact (Reps.none _ _))
         intro v179 w9 ho10 hb hg_ hnew_
         clear hg_ hnew_
         (first | rw [← Ny178.out] at ho10 | (simp only [Int.reduceToNat] at ho10; rw [← Ny178.out] at ho10))
         have n0_ := Rb_ HO186 hb
         have n1_ := Aside0.mk (Kd.R_lower ho10 (below_size L_))
         have n2_ := Bb_ BK176 hb
         have n3_ := Bb_ BK177 hb
         have n4_ := Ls_ HB hb
         clear HO186
         clear BK176
         clear BK177
         clear HB
         have HO186 := n0_
         have HO180 := n1_
         have BK176 := n2_
         have BK177 := n3_
         have HB := n4_
         clear n0_ n1_ n2_ n3_ n4_
         clear hb ho10
         refine hK.out _ _ ⟨(blk_cell BK176.out 0).trans rfl, (blk_cell BK176.out 1).trans rfl, (blk_cell BK176.out 2).trans rfl⟩ (fun hHeld => ?_)
         clear hK K
         refine nm_ 3 ?_
         refine on_ 4 7 HT_ rfl rfl (fun K hK => ?_)
         refine Kd.R_append_rows_step k88 (w0 := w) w.heap.size (by rfl) (.tmp 3) (.tmp 6) 22 88 (.agg #[(.int .i64 0), (.int .i64 0)]) 16 rfl Try.underlying22 info88 rfl (by decide) (by omega) v179 y178 l0_1 _ _ _ (fun _ => True) (fun _ => False) rfl rfl ?aO ?aR (fun _ _ h => h) (fun _ h => h.elim) ?aF ?aB ?aS ?aL ?_
         (case aR => repeat (first | exact (Kd.C_below HR0_1.out HB.out) | (with_reducible refine Kd.C_alloc ?_ _) | (with_reducible refine Kd.C_drewN ?_ _) | (with_reducible refine Kd.C_drew ?_)))
         (case aB => exact L_)
         (case aF => exact (fun _ _ => trivial))
         (case aO => exact (R_ HO180))
         (case aS => exact (below_size L_))
         (case aL => have := LMc2.out; omega)
         intro v182 w11 ho hb hg hat
         rw [← Ny181.out] at ho
         have n0_ := Aside0.mk (blk_grown (g := gb176) (o := .cells #[.int .i64 a0_0, .slice A0_1 l0_1.length c0_1, .slice A0_2 l0_2.length c0_2] 27 (0, 0)) (B_ BK176) hg (Kd.R_ne HO180.out BK176.out (by decide)))
         have n1_ := Aside0.mk (blk_grown (g := gb177) (o := .cells #[.int .i64 0, .slice none 0 0, .slice none 0 0] 27 (0, 0)) (B_ BK177) hg (Kd.R_ne HO180.out BK177.out (by decide)))
         have n2_ := Aside0.mk (Kd.R_over' (R_ HO186) (Kd.R_typed (R_ HO180)) (by decide) hg)
         have n3_ := Aside0.mk (hb)
         have n4_ := Aside0.mk (ho)
         clear BK176
         clear BK177
         clear HO186
         clear HB
         clear HO180
         have BK176 := n0_
         have BK177 := n1_
         have HO186 := n2_
         have HB := n3_
         have HO183 := n4_
         clear n0_ n1_ n2_ n3_ n4_
         clear ho hb hg hat
         refine hK.out _ _ ⟨(blk_cell BK176.out 0).trans rfl, (blk_cell BK176.out 1).trans rfl, (blk_cell BK176.out 2).trans rfl⟩ (fun hHeld => ?_)
         clear hK K
         refine nm_ 7 ?_
         refine pu_ 9 12 HT_ ?_
         refine pu_ 10 13 HT_ ?_
         exact norm_ (by simp only [putAll, Act.put, List.setIfInBounds_toArray, List.set_cons_zero, List.set_cons_succ]) (hCont (v179, v182, v185) _ ⟨hHeld, (R_ HO183), (R_ HO186), (B_ BK176), (B_ BK177), L_⟩)
     rintro ⟨v179, v182, v185⟩ w12 ⟨hS_, h0_, h1_, h2_, h3_, h4_⟩
     have n0_ : Aside0 (Kd.R k88 88 w12 w.heap.size (fun _ => True) v182 y181) := ⟨h0_⟩
     have n1_ : Aside0 (Kd.R k47 47 w12 w.heap.size (fun _ => True) v185 y184) := ⟨h1_⟩
     have n2_ : Aside0 (w12.heap[gb176]? = some (.cells #[.int .i64 a0_0, .slice A0_1 l0_1.length c0_1, .slice A0_2 l0_2.length c0_2] 27 (0, 0))) := ⟨h2_⟩
     have n3_ : Aside0 (w12.heap[gb177]? = some (.cells #[.int .i64 0, .slice none 0 0, .slice none 0 0] 27 (0, 0))) := ⟨h3_⟩
     have n4_ : Aside0 (Below w.heap.size w w12) := ⟨h4_⟩
     clear BK176
     clear BK177
     clear HB
     clear h0_ h1_ h2_ h3_ h4_
     have HO183 := n0_
     have HO186 := n1_
     have BK176 := n2_
     have BK177 := n3_
     have HB := n4_
     clear n0_ n1_ n2_ n3_ n4_
     have hHeld : w12.cell? ⟨gb176, 0, none⟩ = some (.int .i64 a0_0) ∧ w12.cell? ⟨gb176, 1, none⟩ = some (.slice A0_1 l0_1.length c0_1) ∧ w12.cell? ⟨gb176, 2, none⟩ = some (.slice A0_2 l0_2.length c0_2) := hS_
     refine norm_ (a' := ?_) ?_ ?_
     rotate_left
     · simp only [putAll, Act.put, List.setIfInBounds_toArray, List.set_cons_zero, List.set_cons_succ]
       rfl
     refine on_ 8 11 HT_ rfl rfl (fun K hK => ?_)
     refine Kd.R_append_rows_step k47 (w0 := w) w.heap.size (by rfl) (.tmp 8) (.tmp 10) 25 47 (.agg #[(.int .i64 0), (.int .i64 0), (.int .i64 0)]) 24 rfl Try.underlying25 info47 rfl (by decide) (by omega) v185 y184 l0_2 _ _ _ (fun _ => True) (fun _ => False) rfl rfl ?aO ?aR (fun _ _ h => h) (fun _ h => h.elim) ?aF ?aB ?aS ?aL ?_
     (case aR => repeat (first | exact (Kd.C_below HR0_2.out HB.out) | (with_reducible refine Kd.C_alloc ?_ _) | (with_reducible refine Kd.C_drewN ?_ _) | (with_reducible refine Kd.C_drew ?_)))
     (case aB => exact L_)
     (case aF => exact (fun _ _ => trivial))
     (case aO => exact (R_ HO186))
     (case aS => exact (below_size L_))
     (case aL => have := LMc3.out; omega)
     intro v188 w13 ho hb hg hat
     rw [← Ny187.out] at ho
     have n0_ := Aside0.mk (blk_grown (g := gb176) (o := .cells #[.int .i64 a0_0, .slice A0_1 l0_1.length c0_1, .slice A0_2 l0_2.length c0_2] 27 (0, 0)) (B_ BK176) hg (Kd.R_ne HO186.out BK176.out (by decide)))
     have n1_ := Aside0.mk (blk_grown (g := gb177) (o := .cells #[.int .i64 0, .slice none 0 0, .slice none 0 0] 27 (0, 0)) (B_ BK177) hg (Kd.R_ne HO186.out BK177.out (by decide)))
     have n2_ := Aside0.mk (Kd.R_over' (R_ HO183) (Kd.R_typed (R_ HO186)) (by decide) hg)
     have n3_ := Aside0.mk (hb)
     have n4_ := Aside0.mk (ho)
     clear BK176
     clear BK177
     clear HO183
     clear HB
     clear HO186
     have BK176 := n0_
     have BK177 := n1_
     have HO183 := n2_
     have HB := n3_
     have HO189 := n4_
     clear n0_ n1_ n2_ n3_ n4_
     clear ho hb hg hat
     obtain ⟨Ao14, co14, eo14⟩ := Kd.R_slice HO183.out
     (first | subst eo14 | (injection eo14 with f1_ f2_ f3_; have f4_ := f1_.symm; have f5_ := f3_.symm; clear f1_ f2_ f3_; subst f4_; subst f5_))
     obtain ⟨Ao16, co16, eo16⟩ := Kd.R_slice HO189.out
     (first | subst eo16 | (injection eo16 with f1_ f2_ f3_; have f4_ := f1_.symm; have f5_ := f3_.symm; clear f1_ f2_ f3_; subst f4_; subst f5_))
     refine hK.out _ _ ⟨(blk_cell BK176.out 0).trans rfl, (blk_cell BK176.out 1).trans rfl, (blk_cell BK176.out 2).trans rfl⟩ (fun hHeld => ?_)
     clear hK K
     refine nm_ 11 ?_
     refine last_ (i := 11) (N := none) #[true, true, true, true, true, true, true, true, true, true, true, true, false, false] rfl rfl (one_of HT_.out (by kernel_rfl)) (by decide) (fun K hK => ?_)
     have hs15 : w13.cell? ⟨gb176, 1, none⟩ = some (.slice A0_1 l0_1.length c0_1) := (blk_cell BK176.out 1).trans rfl
     have hfs15 := blk_frozen BK176.out 1
     have hns15_1 := NB177_176.out
     have hms15_1 := NB176_177.out
     refine skip_ (w1 := ?_) (by rfl) rfl ?_ ?_
     rotate_left
     · go_simp
       rfl
     refine hK.out _ _ ?_
     clear hK K
     refine pu_ 12 14 HT_ ?_
     refine last_ (i := 13) (N := none) #[true, true, true, true, true, true, true, true, true, true, true, true, true, true] rfl rfl (one_of HT_.out (by kernel_rfl)) (by decide) (fun K hK => ?_)
     have hs17 : w13.cell? ⟨gb176, 2, none⟩ = some (.slice A0_2 l0_2.length c0_2) := (blk_cell BK176.out 2).trans rfl
     have hfs17 := blk_frozen BK176.out 2
     have hns17_1 := NB177_176.out
     have hms17_1 := NB176_177.out
     refine skip_ (w1 := ?_) (by rfl) rfl ?_ ?_
     rotate_left
     · go_simp
       rfl
     refine hK.out _ _ ?_
     clear hK K
     refine done_ (done_of HT_.out (by kernel_rfl)) ?_
     have hnb18 := NB176_177.out
     have hnc18 := NB177_176.out
     have hcz19_0 : w13.cell? ⟨gb176, 0, none⟩ = some (.int .i64 a0_0) := (blk_cell BK176.out 0).trans rfl
     have hcz19_1 : w13.cell? ⟨gb176, 1, none⟩ = some (.slice A0_1 l0_1.length c0_1) := (blk_cell BK176.out 1).trans rfl
     have hcz19_2 : w13.cell? ⟨gb176, 2, none⟩ = some (.slice A0_2 l0_2.length c0_2) := (blk_cell BK176.out 2).trans rfl
     have hfz19_0 := blk_frozen BK176.out 0
     have hfz19_1 := blk_frozen BK176.out 1
     have hfz19_2 := blk_frozen BK176.out 2
     have hcz20_0 : w13.cell? ⟨gb177, 0, none⟩ = some (.int .i64 0) := (blk_cell BK177.out 0).trans rfl
     have hcz20_1 : w13.cell? ⟨gb177, 1, none⟩ = some (.slice none 0 0) := (blk_cell BK177.out 1).trans rfl
     have hcz20_2 : w13.cell? ⟨gb177, 2, none⟩ = some (.slice none 0 0) := (blk_cell BK177.out 2).trans rfl
     have hfz20_0 := blk_frozen BK177.out 0
     have hfz20_1 := blk_frozen BK177.out 1
     have hfz20_2 := blk_frozen BK177.out 2
     try go_wp2
     refine bodyPost_ret (results_cell_row rfl _ _ gb177 27 #[.int .i64 a0_0, .slice Ao14 y181.length co14, .slice Ao16 y187.length co16] (0, 0) _ rfl (by (with_reducible repeat (first | refine blk_drewN ?_ _ | refine blk_drew ?_ | refine blk_alloc ?_ _)); refine blk_put (cs := #[.int .i64 a0_0, .slice Ao14 y181.length co14, .slice none 0 0]) ?_ 2 _ rfl; (with_reducible repeat (first | refine blk_drewN ?_ _ | refine blk_drew ?_ | refine blk_alloc ?_ _)); refine blk_put (cs := #[.int .i64 a0_0, .slice none 0 0, .slice none 0 0]) ?_ 1 _ rfl; (with_reducible repeat (first | refine blk_drewN ?_ _ | refine blk_drew ?_ | refine blk_alloc ?_ _)); refine blk_put (cs := #[.int .i64 0, .slice none 0 0, .slice none 0 0]) ?_ 0 _ rfl; (with_reducible repeat (first | refine blk_drewN ?_ _ | refine blk_drew ?_ | refine blk_alloc ?_ _)); refine blk_far ?_ NB177_176.out _; (with_reducible repeat (first | refine blk_drewN ?_ _ | refine blk_drew ?_ | refine blk_alloc ?_ _)); refine blk_far ?_ NB177_176.out _; (with_reducible repeat (first | refine blk_drewN ?_ _ | refine blk_drew ?_ | refine blk_alloc ?_ _)); exact BK177.out) Try.underlying27 rfl (by kernel_rfl)) rfl ?_
     exact ⟨_, _, E_, by (with_reducible repeat (first | apply Kd.R_alloc | apply Kd.R_drewN | apply Kd.R_drew)); exact Kd.R_mono (Kd.R_far (p := ⟨gb177, 2, none⟩) (Kd.R_far (p := ⟨gb177, 1, none⟩) (Kd.R_far (p := ⟨gb177, 0, none⟩) (Kd.R_far (p := ⟨gb176, 2, none⟩) (Kd.R_far (p := ⟨gb176, 1, none⟩) (Kd.R_types (Kd.R_types HO183.out BK176.out (by decide)) BK177.out (by decide)) (fun _ hk => hk.1.2) (.slice Ao14 y181.length co14)) (fun _ hk => hk.1.2) (.slice Ao16 y187.length co16)) (fun _ hk => hk.2) (.int .i64 a0_0)) (fun _ hk => hk.2) (.slice Ao14 y181.length co14)) (fun _ hk => hk.2) (.slice Ao16 y187.length co16)) (fun _ hk => trivial), by (with_reducible repeat (first | apply Kd.R_alloc | apply Kd.R_drewN | apply Kd.R_drew)); exact Kd.R_mono (Kd.R_far (p := ⟨gb177, 2, none⟩) (Kd.R_far (p := ⟨gb177, 1, none⟩) (Kd.R_far (p := ⟨gb177, 0, none⟩) (Kd.R_far (p := ⟨gb176, 2, none⟩) (Kd.R_far (p := ⟨gb176, 1, none⟩) (Kd.R_types (Kd.R_types HO189.out BK176.out (by decide)) BK177.out (by decide)) (fun _ hk => hk.1.2) (.slice Ao14 y181.length co14)) (fun _ hk => hk.1.2) (.slice Ao16 y187.length co16)) (fun _ hk => hk.2) (.int .i64 a0_0)) (fun _ hk => hk.2) (.slice Ao14 y181.length co14)) (fun _ hk => hk.2) (.slice Ao16 y187.length co16)) (fun _ hk => trivial), L_⟩
   · rw [if_neg c3] at H
     exact absurd H (by simp)
 · rw [if_neg c2] at H
   exact absurd H (by simp)

end Go.Proofs.Ytlddekjlmkimnaa.C
