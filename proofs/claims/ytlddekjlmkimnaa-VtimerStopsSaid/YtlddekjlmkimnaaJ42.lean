import Derived.Test.YtlddekjlmkimnaaJ5
import Derived.Test.YtlddekjlmkimnaaJ28
import Derived.Test.YtlddekjlmkimnaaJ22
import Derived.Test.YtlddekjlmkimnaaC11
import Derived.Test.YtlddekjlmkimnaaJ23
import Derived.Test.YtlddekjlmkimnaaJ24
section
namespace Go.Proofs.Ytlddekjlmkimnaa.C
open Go.RowKit Go.Proofs.YtlddekjlmkimnaaW.PrintWords Go.Proofs.YtlddekjlmkimnaaW.PrintLast Go.Proofs.YtlddekjlmkimnaaW.PrintMore
set_option linter.unusedVariables false
set_option linter.unusedSimpArgs false
attribute [local go_sem ↓] Go.wp_at_zero Go.wp_at_succ

set_option maxRecDepth 100000 in
set_option maxHeartbeats 8000000 in
theorem with55 (w : World) (now : Int) (A1 : Option Addr) (c1 : Nat) (ts : List S88) (A2 : Option Addr) (c2 : Nat) (rs : List S47) (own : Int) (p : Nat) (hr1 : Kd.C k88 w A1 ts.length ts) (hc1 : ts.length ≤ c1) (hr2 : Kd.C k47 w A2 rs.length rs) (hc2 : rs.length ≤ c2)
    (hn1 : ts.length ≤ 999999) (hn2 : rs.length ≤ 999999) (K : Nat) (hck : vtimer_Check.f K now ts rs = some 0) (hv : vtimer_vcpu.f own = some true) (S : Nat → Prop) (φ : World → Prop) (ez now' : Int) (ts' : List S88) (rs' : List S47)
    (HC : ∀ (w0 W : World) (g : Nat) (sv rv : Value), w0.heap.size = w.heap.size + 2 → Below w.heap.size w w0 → Below w0.heap.size w0 W → AO W w0.heap.size g now ts rs sv rv →
      Calls Try.prog 55 #[.pointer (some ⟨g, 0, none⟩), .pointer (some ⟨p, 0, none⟩)] W fun e w' => e = .returned (.int .i64 ez) ∧ BB S w0 w' ∧ (ez = 0 → (∃ sv' rv', AO w' w0.heap.size g now' ts' rs' sv' rv') ∧ φ w'))
    (hS : ∀ k, S k → k < w.heap.size) (hφ : ∀ W i v, φ W → φ (W.setCell ⟨w.heap.size + 1, i, none⟩ v)) :
    Calls Try.prog 32 #[.agg #[.int .i64 now, .slice A1 ts.length c1, .slice A2 rs.length c2], .int .i64 own, .func (.func 55) #[] #[.pointer (some ⟨p, 0, none⟩)]] w fun e w' =>
      ∃ v1 v2, e = .returned (.tuple #[.agg #[.int .i64 (sel ez now' 0), v1, v2], .int .i64 ez]) ∧ Kd.R k88 88 w' w.heap.size (fun _ => True) v1 (sel ez ts' []) ∧ Kd.R k47 47 w' w.heap.size (fun _ => True) v2 (sel ez rs' []) ∧ BB S w w' ∧ (ez = 0 → φ w') := by
  obtain ⟨W0, hW0⟩ : ∃ W0, (w.alloc (.cells #[.int .i64 now, .slice A1 ts.length c1, .slice A2 rs.length c2] 27)).alloc (.cells #[.int .i64 0, .slice none 0 0, .slice none 0 0] 27) = W0 := ⟨_, rfl⟩
  have hs0 : W0.heap.size = w.heap.size + 2 := by subst hW0; simp
  have hb0 : Below w.heap.size w W0 := by subst hW0; exact ((Below.refl _ w).alloc (Nat.le_refl _) _).alloc (by simp) _
  have k3 : W0.heap[w.heap.size]? = some (.cells #[.int .i64 now, .slice A1 ts.length c1, .slice A2 rs.length c2] 27 (0, 0)) := by subst hW0; exact blk_alloc (blk_new _ _) _
  have k6 : W0.heap[w.heap.size + 1]? = some (.cells #[.int .i64 0, .slice none 0 0, .slice none 0 0] 27 (0, 0)) := by
    have := blk_new (w.alloc (.cells #[.int .i64 now, .slice A1 ts.length c1, .slice A2 rs.length c2] 27)) (.cells #[.int .i64 0, .slice none 0 0, .slice none 0 0] 27)
    subst hW0; simpa using this
  have HCK := Lib.hid (fun W hb => vtimer_Check.calls K now A1 c1 ts A2 c2 rs 0 W (Kd.C_below hr1 hb) hc1 (Kd.C_below hr2 hb) hc2 hck)
  have HV := Lib.hid (fun W => vtimer_vcpu.calls own true W hv)
  have HCA := Lib.hid (fun W hb => api_Alarm_60.calls A2 c2 rs rs W (Kd.C_below hr2 hb) hc2 (by unfold api_Alarm_60.f; rw [if_pos (by omega)]))
  have HCT := Lib.hid (fun W hb => api_Timer_61.calls A1 c1 ts ts W (Kd.C_below hr1 hb) hc1 (by unfold api_Timer_61.f; rw [if_pos (by omega)]))
  have HCL := Lib.hid HC
  have HF := Lib.hid hφ
  have HSS := Lib.hid hS
  have d0 : W0.cell? ⟨w.heap.size, 0, none⟩ = some (.int .i64 now) := (blk_cell k3 0).trans rfl
  have d1 : W0.cell? ⟨w.heap.size, 1, none⟩ = some (.slice A1 ts.length c1) := (blk_cell k3 1).trans rfl
  have d2 : W0.cell? ⟨w.heap.size, 2, none⟩ = some (.slice A2 rs.length c2) := (blk_cell k3 2).trans rfl
  have HB0 := Lib.hid hb0
  have HK3 := Lib.hid k3
  have HK6 := Lib.hid k6
  clear hr1 hr2 hck hv HC hφ hS hb0 k3 k6
  go_enter Try.func32, Try.ntmps32
  go_wp2_with fail
  clear hW0
  refine (HCK.out _ HB0.out).mono ?_
  rintro e w2 ⟨rfl, hb2⟩
  have HB2 := Lib.hid (below_step (Below.refl _ _) hb2)
  clear hb2
  go_wp2_with fail
  refine (HV.out _).mono ?_
  rintro e w3 ⟨rfl, hd⟩
  obtain ⟨n, rfl⟩ := hd
  obtain ⟨W3, hW3⟩ : ∃ W3, w2.drewN n = W3 := ⟨_, rfl⟩
  have hb3 : Below W0.heap.size W0 W3 := by rw [← hW3]; exact pw_below_drewN HB2.out n
  first | rw [hW3] | skip
  clear hW3 HB2
  have e0 : W3.cell? ⟨w.heap.size, 0, none⟩ = some (.int .i64 now) := (hb3.cell (p := ⟨w.heap.size, 0, none⟩) (by show w.heap.size < _; omega)).trans d0
  have e1 : W3.cell? ⟨w.heap.size, 1, none⟩ = some (.slice A1 ts.length c1) := (hb3.cell (p := ⟨w.heap.size, 1, none⟩) (by show w.heap.size < _; omega)).trans d1
  have e2 : W3.cell? ⟨w.heap.size, 2, none⟩ = some (.slice A2 rs.length c2) := (hb3.cell (p := ⟨w.heap.size, 2, none⟩) (by show w.heap.size < _; omega)).trans d2
  have HD := Lib.hid (show (∀ W, Below W0.heap.size W0 W → W.cell? ⟨w.heap.size, 0, none⟩ = some (.int .i64 now) ∧ W.cell? ⟨w.heap.size, 1, none⟩ = some (.slice A1 ts.length c1) ∧ W.cell? ⟨w.heap.size, 2, none⟩ = some (.slice A2 rs.length c2)) from fun W hb =>
    ⟨(hb.cell (p := ⟨w.heap.size, 0, none⟩) (by show w.heap.size < _; omega)).trans d0, (hb.cell (p := ⟨w.heap.size, 1, none⟩) (by show w.heap.size < _; omega)).trans d1, (hb.cell (p := ⟨w.heap.size, 2, none⟩) (by show w.heap.size < _; omega)).trans d2⟩)
  have HB3 := Lib.hid hb3
  clear hb3 d0 d1 d2
  go_wp2_with fail
  refine st_ 8 (fun W => W.cell? ⟨w.heap.size, 0, none⟩ = some (.int .i64 now) ∧ W.cell? ⟨w.heap.size, 1, none⟩ = some (.slice A1 ts.length c1) ∧ W.cell? ⟨w.heap.size, 2, none⟩ = some (.slice A2 rs.length c2)) [7] ⟨e0, e1, e2⟩ (fun hHeld => ?_)
  refine pk_ 0 21 ?_
  refine pk_ 2 23 ?_
  refine tk_ 1 22 rfl rfl hHeld (by rintro w' ⟨s0, s1, s2⟩; go_simp; with_reducible rfl) ?_
  refine tk_ 3 24 rfl rfl hHeld (by rintro w' ⟨s0, s1, s2⟩; go_simp; with_reducible rfl) ?_
  refine join_ (σ := Option Addr × Nat × Nat) 1 #[true, true, true, true, true, true, true, false] (fun s => [(25, .slice s.1 rs.length s.2.1), (26, .agg #[.int .i64 now, .slice A1 ts.length c1, .slice s.1 rs.length s.2.1]), (9, .pointer (some ⟨s.2.2, 0, none⟩))]) (fun s W => Below W0.heap.size W0 W ∧ W0.heap.size ≤ s.2.2 ∧ W.heap[s.2.2]? = some (.cells #[.int .i64 0, .slice none 0 0, .slice none 0 0] 27 (0, 0)) ∧ Kd.R k47 47 W W0.heap.size (fun _ => True) (.slice s.1 rs.length s.2.1) rs) ?_ ?_
  rotate_left
  · intro hJ
    refine two_ (i := 4) (j := 6) (Ni := some 25) (Nj := some 9) #[true, true, true, true, true, false, false, false] #[true, true, true, true, false, false, true, false] rfl rfl rfl rfl (by kernel_rfl) (by decide) (by decide) (fun K hK => ?_) (fun K hK => ?_)
    · skip
      refine goes_ Try.func60 (by kernel_rfl) rfl #[.slice A2 rs.length c2] (by rfl) rfl rfl M_ ?_
      refine (HCA.out _ (HB0.out.trans ((below_drew HB3.out).mono (by omega)))).mono ?_
      rintro e w4 ⟨rv, rfl, hrv, hb4⟩
      obtain ⟨A6, c6, e6⟩ := Kd.R_slice hrv
      subst e6
      have HB4 := Lib.hid (below_step (below_drew HB3.out) hb4)
      refine ⟨_, rfl, ?_⟩
      refine hK.out _ _ (HD.out _ HB4.out) (fun hHeld => ?_)
      clear hK K
      refine nm_ 25 ?_
      refine pk_ 5 26 ?_
      refine ok1_ 6 9 rfl rfl (fun K hK => ?_)
      refine value_ (v := .pointer (some ⟨w4.heap.size, 0, none⟩)) (w1 := w4.alloc (.cells #[.int .i64 0, .slice none 0 0, .slice none 0 0] 27)) (by rfl) rfl (by go_simp; try rfl) ?_
      refine hK.out _ _ (HD.out _ (below_alloc HB4.out _)) (fun hHeld => ?_)
      clear hK K
      refine nm_ 9 ?_
      exact norm_ Pa_ (hJ (A6, c6, w4.heap.size) _ ⟨below_alloc HB4.out _, HB4.out.size, blk_new _ _, Kd.R_alloc (Kd.R_lower hrv HB3.out.size) _⟩)
    · skip
      refine value_ (v := .pointer (some ⟨W3.heap.size, 0, none⟩)) (w1 := (W3.alloc (.cells #[.int .i64 0, .slice none 0 0, .slice none 0 0] 27)).drew) (by rfl) rfl (by go_simp; try rfl) ?_
      have HBx := Lib.hid (below_drew (below_alloc HB3.out (.cells #[.int .i64 0, .slice none 0 0, .slice none 0 0] 27)))
      refine hK.out _ _ (HD.out _ HBx.out) (fun hHeld => ?_)
      clear hK K
      refine nm_ 9 ?_
      refine ok1_ 4 25 rfl rfl (fun K hK => ?_)
      refine goes_ Try.func60 (by kernel_rfl) rfl #[.slice A2 rs.length c2] (by rfl) rfl rfl M_ ?_
      refine (HCA.out _ (HB0.out.trans (HBx.out.mono (by omega)))).mono ?_
      rintro e w4 ⟨rv, rfl, hrv, hb4⟩
      obtain ⟨A6, c6, e6⟩ := Kd.R_slice hrv
      subst e6
      have HB4 := Lib.hid (below_step HBx.out hb4)
      refine ⟨_, rfl, ?_⟩
      refine hK.out _ _ (HD.out _ HB4.out) (fun hHeld => ?_)
      clear hK K
      refine nm_ 25 ?_
      refine pk_ 5 26 ?_
      exact norm_ Pa_ (hJ (A6, c6, W3.heap.size) _ ⟨HB4.out, HB3.out.size, blk_below (w := (W3.alloc (.cells #[.int .i64 0, .slice none 0 0, .slice none 0 0] 27)).drew) (blk_new W3 _) hb4, Kd.R_lower hrv HBx.out.size⟩)
  rintro ⟨A6, c6, g⟩ w5 ⟨hb5, hg5, hk5, hr5⟩
  refine norm_ (a' := ?_) ?_ ?_
  rotate_left
  · simp only [putAll, Act.put, List.setIfInBounds_toArray, List.set_cons_zero, List.set_cons_succ]
    rfl
  refine last_ (i := 7) (N := none) #[true, true, true, true, true, true, true, true] rfl rfl (by kernel_rfl) (by decide) (fun K hK => ?_)
  have q0 : w5.cell? ⟨g, 0, none⟩ = some (.int .i64 0) := (blk_cell hk5 0).trans rfl
  have q1 : w5.cell? ⟨g, 1, none⟩ = some (.slice none 0 0) := (blk_cell hk5 1).trans rfl
  have q2 : w5.cell? ⟨g, 2, none⟩ = some (.slice none 0 0) := (blk_cell hk5 2).trans rfl
  have z0 := blk_frozen hk5 0
  have z1 := blk_frozen hk5 1
  have z2 := blk_frozen hk5 2
  refine skip_ (w1 := ((w5.setCell ⟨g, 0, none⟩ (.int .i64 now)).setCell ⟨g, 1, none⟩ (.slice A1 ts.length c1)).setCell ⟨g, 2, none⟩ (.slice A6 rs.length c6)) (by rfl) rfl (by go_simp; try rfl) ?_
  refine hK.out _ _ ?_
  clear hK K
  refine done_ (by kernel_rfl) ?_
  obtain ⟨w6, hw6⟩ : ∃ w6, ((w5.setCell ⟨g, 0, none⟩ (.int .i64 now)).setCell ⟨g, 1, none⟩ (.slice A1 ts.length c1)).setCell ⟨g, 2, none⟩ (.slice A6 rs.length c6) = w6 := ⟨_, rfl⟩
  have b6 : w6.heap[g]? = some (.cells #[.int .i64 now, .slice A1 ts.length c1, .slice A6 rs.length c6] 27 (0, 0)) := by
    rw [← hw6]
    exact blk_put (blk_put (blk_put hk5 0 _ (cs' := #[.int .i64 now, .slice none 0 0, .slice none 0 0]) rfl) 1 _ (cs' := #[.int .i64 now, .slice A1 ts.length c1, .slice none 0 0]) rfl) 2 _ rfl
  have hb6 : Below W0.heap.size W0 w6 := by rw [← hw6]; exact below_set (below_set (below_set hb5 hg5) hg5) hg5
  have r6 : Kd.R k47 47 w6 W0.heap.size (fun _ => True) (.slice A6 rs.length c6) rs := by
    rw [← hw6]
    exact Kd.R_mono (Kd.R_far (p := ⟨g, 2, none⟩) (Kd.R_far (p := ⟨g, 1, none⟩) (Kd.R_far (p := ⟨g, 0, none⟩) (Kd.R_types hr5 hk5 (by decide)) (fun k hk => hk.2) _) (fun k hk => hk.2) _) (fun k hk => hk.2) _) (fun _ _ => trivial)
  have HB6 := Lib.hid hb6
  have HK6b := Lib.hid b6
  have HR6 := Lib.hid r6
  have HG := Lib.hid hg5
  obtain ⟨f0, f1, f2⟩ := HD.out w6 hb6
  have HCT6 := Lib.hid (HCT.out w6 (HB0.out.trans (hb6.mono (by omega))))
  first | rw [hw6] | skip
  clear hw6 b6 hb6 r6 hk5 hb5 hr5 q0 q1 q2 z0 z1 z2 e0 e1 e2 hHeld HCT HCA HV HCK HB3
  go_wp2_with fail
  refine (HCT6.out).mono ?_
  rintro e w7 ⟨sv, rfl, hsv, hb7⟩
  obtain ⟨A7, c7, e7⟩ := Kd.R_slice hsv
  subst e7
  have b7 := blk_below HK6b.out hb7
  have HB7 := Lib.hid (below_step HB6.out hb7)
  have HT7 := Lib.hid (Kd.R_lower hsv HB6.out.size)
  have HR7 := Lib.hid (Kd.R_below HR6.out hb7)
  have q1 : w7.cell? ⟨g, 1, none⟩ = some (.slice A1 ts.length c1) := (blk_cell b7 1).trans rfl
  have z1 := blk_frozen b7 1
  have HK7 := Lib.hid b7
  clear b7 hb7 hsv f0 f1 f2 HCT6 HR6 HK6b HB6
  have hao : AO (w7.setCell ⟨g, 1, none⟩ (.slice A7 ts.length c7)) W0.heap.size g now ts rs (.slice A7 ts.length c7) (.slice A6 rs.length c6) :=
    ⟨blk_put HK7.out 1 _ rfl, HG.out, Kd.R_mono (Kd.R_far (p := ⟨g, 1, none⟩) (Kd.R_types HT7.out HK7.out (by decide)) (fun k hk => hk.2) _) (fun _ _ => trivial), Kd.R_mono (Kd.R_far (p := ⟨g, 1, none⟩) (Kd.R_types HR7.out HK7.out (by decide)) (fun k hk => hk.2) _) (fun _ _ => trivial)⟩
  have hcl := HCL.out W0 _ g (.slice A7 ts.length c7) (.slice A6 rs.length c6) hs0 HB0.out (below_set HB7.out HG.out) hao
  have HCLo := Lib.hid hcl
  clear hao hcl
  go_wp2_with fail
  refine (HCLo.out).mono ?_
  rintro e w8 ⟨rfl, hbb, hok⟩
  clear q1 z1
  have b8 : w8.heap[w.heap.size + 1]? = some (.cells #[.int .i64 0, .slice none 0 0, .slice none 0 0] 27 (0, 0)) := hbb.blk HK6.out (fun h => by have := HSS.out _ h; omega)
  have hbw : BB S w w8 := ⟨hbb.os.trans HB0.out.os, hbb.tape.trans HB0.out.tape, hbb.output.trans HB0.out.output, Nat.le_trans HB0.out.size hbb.size, fun k hk hs => (hbb.block k (by omega) hs).trans (HB0.out.block k hk)⟩
  have p0 : w8.cell? ⟨w.heap.size + 1, 0, none⟩ = some (.int .i64 0) := (blk_cell b8 0).trans rfl
  have p1 : w8.cell? ⟨w.heap.size + 1, 1, none⟩ = some (.slice none 0 0) := (blk_cell b8 1).trans rfl
  have p2 : w8.cell? ⟨w.heap.size + 1, 2, none⟩ = some (.slice none 0 0) := (blk_cell b8 2).trans rfl
  have y0 := blk_frozen b8 0
  have y1 := blk_frozen b8 1
  have y2 := blk_frozen b8 2
  have HBB := Lib.hid hbw
  have HK8 := Lib.hid b8
  by_cases hz : ez = 0
  · subst hz
    obtain ⟨⟨sv', rv', hA⟩, hphi⟩ := hok rfl
    obtain ⟨A8, c8, e8⟩ := Kd.R_slice hA.T
    obtain ⟨A9, c9, e9⟩ := Kd.R_slice hA.A
    subst e8
    subst e9
    have HA := Lib.hid hA
    have HPHI := Lib.hid hphi
    have g0 : w8.cell? ⟨g, 0, none⟩ = some (.int .i64 now') := (blk_cell hA.blk 0).trans rfl
    have g1 : w8.cell? ⟨g, 1, none⟩ = some (.slice A8 ts'.length c8) := (blk_cell hA.blk 1).trans rfl
    have g2 : w8.cell? ⟨g, 2, none⟩ = some (.slice A9 rs'.length c9) := (blk_cell hA.blk 2).trans rfl
    clear hok hA hphi b8 hbw hbb
    go_wp2
    have B1 := blk_put HK8.out 0 (.int .i64 now') (cs' := #[.int .i64 now', .slice none 0 0, .slice none 0 0]) rfl
    have B2 := blk_put B1 1 (.slice A8 ts'.length c8) (cs' := #[.int .i64 now', .slice A8 ts'.length c8, .slice none 0 0]) rfl
    have B3 := blk_put B2 2 (.slice A9 rs'.length c9) (cs' := #[.int .i64 now', .slice A8 ts'.length c8, .slice A9 rs'.length c9]) rfl
    refine bodyPost_ret (results_ct rfl _ _ (w.heap.size + 1) 27 #[.int .i64 now', .slice A8 ts'.length c8, .slice A9 rs'.length c9] (0, 0) _ rfl B3 Try.underlying27 rfl (by kernel_rfl)) rfl ?_
    refine ⟨_, _, rfl, ?_, ?_, ?_, by first | exact HF.out _ _ _ (HF.out _ _ _ (HF.out _ _ _ HPHI.out)) | exact fun _ => HF.out _ _ _ (HF.out _ _ _ (HF.out _ _ _ HPHI.out))⟩
    · exact Kd.R_lower (Kd.R_mono (Kd.R_far (p := ⟨w.heap.size + 1, 2, none⟩) (Kd.R_far (p := ⟨w.heap.size + 1, 1, none⟩) (Kd.R_far (p := ⟨w.heap.size + 1, 0, none⟩) (Kd.R_types HA.out.T HK8.out (by decide)) (fun k hk => hk.2) _) (fun k hk => hk.2) _) (fun k hk => hk.2) _) (fun _ _ => trivial)) (by omega)
    · exact Kd.R_lower (Kd.R_mono (Kd.R_far (p := ⟨w.heap.size + 1, 2, none⟩) (Kd.R_far (p := ⟨w.heap.size + 1, 1, none⟩) (Kd.R_far (p := ⟨w.heap.size + 1, 0, none⟩) (Kd.R_types HA.out.A HK8.out (by decide)) (fun k hk => hk.2) _) (fun k hk => hk.2) _) (fun k hk => hk.2) _) (fun _ _ => trivial)) (by omega)
    · exact ((HBB.out.set ⟨w.heap.size + 1, 0, none⟩ (.inl (by show _ ≤ w.heap.size + 1; omega)) _).set ⟨w.heap.size + 1, 1, none⟩ (.inl (by show _ ≤ w.heap.size + 1; omega)) _).set ⟨w.heap.size + 1, 2, none⟩ (.inl (by show _ ≤ w.heap.size + 1; omega)) _
  · have hz1 : (ez != 0) = true := by simpa using hz
    have HZ := Lib.hid hz
    clear hok b8 hbw hbb hz
    go_wp2
    have B1 := blk_put HK8.out 0 (.int .i64 0) (cs' := #[.int .i64 0, .slice none 0 0, .slice none 0 0]) rfl
    have B2 := blk_put B1 1 (.slice none 0 0) (cs' := #[.int .i64 0, .slice none 0 0, .slice none 0 0]) rfl
    have B3 := blk_put B2 2 (.slice none 0 0) (cs' := #[.int .i64 0, .slice none 0 0, .slice none 0 0]) rfl
    refine bodyPost_ret (results_ct rfl _ _ (w.heap.size + 1) 27 #[.int .i64 0, .slice none 0 0, .slice none 0 0] (0, 0) _ rfl B3 Try.underlying27 rfl (by kernel_rfl)) rfl ?_
    refine ⟨.slice none 0 0, .slice none 0 0, by simp [sel, HZ.out], by rw [sel, if_neg HZ.out]; exact Kd.R_nil _ _ _ _ _, by rw [sel, if_neg HZ.out]; exact Kd.R_nil _ _ _ _ _, ?_, fun h => absurd h HZ.out⟩
    exact ((HBB.out.set ⟨w.heap.size + 1, 0, none⟩ (.inl (by show _ ≤ w.heap.size + 1; omega)) _).set ⟨w.heap.size + 1, 1, none⟩ (.inl (by show _ ≤ w.heap.size + 1; omega)) _).set ⟨w.heap.size + 1, 2, none⟩ (.inl (by show _ ≤ w.heap.size + 1; omega)) _
end Go.Proofs.Ytlddekjlmkimnaa.C
end
section
namespace Go.Proofs.Ytlddekjlmkimnaa.C
open Go.RowKit Go.Sort Go.Proofs.YtlddekjlmkimnaaW.PrintWords Go.Proofs.YtlddekjlmkimnaaW.PrintLast Go.Proofs.YtlddekjlmkimnaaW.PrintMore
set_option linter.unusedVariables false
set_option linter.unusedSimpArgs false

def cancelF (now : Int) (l : List S88) (id : Int) : Int × List S88 × Int :=
  if okW now l = true then (if found l id = true then (now, l.eraseIdx (bs l id), 0) else (0, [], 4)) else (0, [], 250)
theorem cancel_k (now : Int) (l : List S88) (id : Int) (hn : l.length ≤ 999999) (k : Nat) (hk : l.length + 2 ≤ k) : wheel_Cancel.f k now l id = some (cancelF now l id) := by
  unfold wheel_Cancel.f cancelF
  rw [check_k now l (by omega) k hk]
  simp only [Option.bind_some]
  cases hok : okW now l with
  | false => simp
  | true =>
    simp only [if_true]
    rw [find_ok now l id (by omega) hok]
    simp only [Option.bind_some]
    by_cases hf : found l id = true
    · rw [if_pos hf, if_pos hf]
      obtain ⟨hb, e⟩ := found_bs hf
      have hcl : api_Timer_61.f l = some l := by unfold api_Timer_61.f; rw [if_pos (by omega)]
      have hw : wrap64 ((bs l id : Int) + 1) = (bs l id : Int) + 1 := by rw [wrap64_id] <;> omega
      rw [hcl]
      simp only [Option.bind_some, hw]
      unfold api_Timer_85.f
      rw [if_pos ⟨by omega, by omega, rfl, by omega⟩]
      simp
    · rw [if_neg hf, if_neg hf]

theorem asleep_v (own : Int) (h0 : 1 ≤ own) (h1 : own ≤ 16) : vtimer_asleep.f own = some (15 + own) := by
  unfold vtimer_asleep.f; rw [wrap64_id (x := 16 + own) (by omega) (by omega), wrap64_id (by omega) (by omega)]; congr 1; omega
end Go.Proofs.Ytlddekjlmkimnaa.C
end
