import Derived.Test.YtlddekjlmkimnaaJ5
import Derived.Test.YtlddekjlmkimnaaHpass1
import Derived.Test.YtlddekjlmkimnaaHwith33
import Derived.Test.YtlddekjlmkimnaaJ29
namespace Go.Proofs.Ytlddekjlmkimnaa.C
open Go.RowKit Go.Proofs.YtlddekjlmkimnaaW.PrintWords Go.Proofs.YtlddekjlmkimnaaW.PrintLast Go.Proofs.YtlddekjlmkimnaaW.PrintMore
set_option linter.unusedVariables false
set_option linter.unusedSimpArgs false
attribute [local go_sem ↓] Go.wp_at_zero Go.wp_at_succ

/-- What vtimer.Pass answers. -/
def passV (now : Int) (ts : List S88) (rs : List S47) (to' : Int) : Option (Int × List S88 × List S47 × List S44 × Int) :=
  if okAl now ts rs = true then
    (if (passF now ts to').2.2.2 = 0 then
      (ringsGo (passF now ts to').1 (passF now ts to').2.1 rs [] (passF now ts to').2.2.1).map (fun r => ((passF now ts to').1, r.1, r.2.1, r.2.2, 0))
    else some (0, [], [], [], (passF now ts to').2.2.2))
  else some (0, [], [], [], 280)
def vtimer_Pass.f (a0_0 : Int) (l0_1 : List (S88)) (l0_2 : List (S47)) (a1 : Int) : Option (Int × (List (S88)) × (List (S47)) × (List (S44)) × Int) :=
  if l0_1.length ≤ 999999 ∧ l0_2.length ≤ 999999 then passV a0_0 l0_1 l0_2 a1 else none

theorem passF_len (now : Int) (ts : List S88) (to' : Int) : (passF now ts to').2.2.1.length ≤ ts.length := by
  unfold passF
  split
  · split
    · simp
    · simp only [passOk]
      rw [sortT_len]; exact List.length_filter_le _ _
  · simp
theorem passF_now {now : Int} {ts : List S88} {to' : Int} (h : (passF now ts to').2.2.2 = 0) : 0 ≤ (passF now ts to').1 ∧ (passF now ts to').1 ≤ 1125899906842624 := by
  unfold passF at h ⊢
  split
  · rename_i h1
    rw [if_pos h1] at h
    have hn := okW_now h1
    split
    · rename_i h2; rw [if_pos h2] at h; simp at h
    · simp only [passOk]; omega
  · rename_i h1; rw [if_neg h1] at h; simp at h

/-- The call of 'with' that Pass makes. -/
theorem pass_with (w : World) (now : Int) (A1 : Option Addr) (c1 : Nat) (ts : List S88) (A2 : Option Addr) (c2 : Nat) (rs : List S47) (to' : Int) (p o : Nat) (v0 : Value) (hr1 : Kd.C k88 w A1 ts.length ts) (hc1 : ts.length ≤ c1) (hr2 : Kd.C k47 w A2 rs.length rs) (hc2 : rs.length ≤ c2)
    (hn1 : ts.length ≤ 999999) (hn2 : rs.length ≤ 999999) (hp : w.heap[p]? = some (.cells #[.int .i64 to'] 2 (0, 0))) (ho : w.heap[o]? = some (.cells #[.slice none 0 0] 33 (0, 0))) (r1 : Int) (r2 : List S88) (r3 : List S47) (r4 : List S44) (r5 : Int) (h : passV now ts rs to' = some (r1, r2, r3, r4, r5)) :
    Calls Try.prog 32 #[.agg #[.int .i64 now, .slice A1 ts.length c1, .slice A2 rs.length c2], .int .i64 1, .func (.func 33) #[] #[.pointer (some ⟨p, 0, none⟩), .pointer (some ⟨o, 0, none⟩)]] w fun e w' =>
      ∃ v1 v2, e = .returned (.tuple #[.agg #[.int .i64 r1, v1, v2], .int .i64 r5]) ∧ Kd.R k88 88 w' w.heap.size (fun _ => True) v1 r2 ∧ Kd.R k47 47 w' w.heap.size (fun _ => True) v2 r3 ∧ BB (fun k => k = o) w w' ∧
        ∃ v, w'.heap[o]? = some (.cells #[v] 33 (0, 0)) ∧ Kd.R k44 44 w' w.heap.size (fun _ => True) v r4 := by
  have hck := chk_k now ts rs (by omega) (by omega) (rs.length + ts.length + 31) (by omega)
  have hol := blk_lt ho
  unfold passV at h
  cases hal : okAl now ts rs with
  | false =>
    rw [hal] at hck h
    simp only [Bool.false_eq_true, if_false, Option.some.injEq, Prod.mk.injEq] at h
    obtain ⟨rfl, rfl, rfl, rfl, rfl⟩ := h
    refine (with_check w now A1 c1 ts A2 c2 rs 1 _ hr1 hc1 hr2 hc2 _ 280 hck (by decide)).mono ?_
    rintro e w' ⟨rfl, hb⟩
    exact ⟨_, _, rfl, Kd.R_nil _ _ _ _ _, Kd.R_nil _ _ _ _ _, BB.of hb, _, blk_below ho hb, Kd.R_nil _ _ _ _ _⟩
  | true =>
    rw [hal] at hck h
    simp only [if_true] at hck h
    have hpk := pass_k now ts to' (by omega) (ts.length + 2) (Nat.le_refl _)
    by_cases hz : (passF now ts to').2.2.2 = 0
    · rw [if_pos hz] at h
      obtain ⟨fin, hgo, hfin⟩ := Option.map_eq_some_iff.1 h
      simp only [Prod.mk.injEq] at hfin
      obtain ⟨rfl, rfl, rfl, rfl, rfl⟩ := hfin
      have hpk0 : wheel_Pass.f (ts.length + 2) now ts to' = some ((passF now ts to').1, (passF now ts to').2.1, (passF now ts to').2.2.1, 0) := by
        rw [hpk]; exact congrArg some (Prod.ext rfl (Prod.ext rfl (Prod.ext rfl hz)))
      have hl := passF_len now ts to'
      refine (with33 w now A1 c1 ts A2 c2 rs 1 p o hr1 hc1 hr2 hc2 hn1 hn2 _ hck rfl (fun k => k = o) (fun W => ∃ v, W.heap[o]? = some (.cells #[v] 33 (0, 0)) ∧ Kd.R k44 44 W (w.heap.size + 2) (fun _ => True) v fin.2.2) 0 (passF now ts to').1 fin.1 fin.2.1
        (fun w0 W g sv rv hs hb0 hb1 hao => ?_) (fun k hk => by subst hk; exact hol) (fun W i v => ?_)).mono ?_
      · refine (pass1_ok w0 W g p o now ts rs sv rv to' hb1 hao (blk_below hp hb0) _ _ _ _ _ (blk_below ho hb0) hpk0 fin hgo (by omega) (passF_now hz)).mono ?_
        rintro e w' ⟨rfl, hb, ha, v, hv, hr⟩
        rw [hs] at hr
        exact ⟨rfl, hb, fun _ => ⟨ha, v, hv, hr⟩⟩
      · rintro ⟨v1, hv, hr⟩
        refine ⟨v1, blk_far hv (by show o ≠ w.heap.size + 1; omega) _, ?_⟩
        exact Kd.R_mono (Kd.R_far (p := ⟨w.heap.size + 1, i, none⟩) (Kd.R_bound hr) (fun k hk => by have := hk.2.1; show k ≠ w.heap.size + 1; omega) v) (fun _ _ => trivial)
      · rintro e w' ⟨v1, v2, rfl, h1, h2, hb, hphi⟩
        obtain ⟨v, hv, hr⟩ := hphi rfl
        exact ⟨v1, v2, rfl, h1, h2, hb, v, hv, Kd.R_lower hr (by omega)⟩
    · rw [if_neg hz] at h
      simp only [Option.some.injEq, Prod.mk.injEq] at h
      obtain ⟨rfl, rfl, rfl, rfl, rfl⟩ := h
      refine (with33 w now A1 c1 ts A2 c2 rs 1 p o hr1 hc1 hr2 hc2 hn1 hn2 _ hck rfl (fun _ => False) (fun _ => True) (passF now ts to').2.2.2 0 [] []
        (fun w0 W g sv rv hs hb0 hb1 hao => ?_) (fun k hk => hk.elim) (fun _ _ _ _ => trivial)).mono ?_
      · refine (pass1_bad w0 W g p o now ts rs sv rv to' hb1 hao (blk_below hp hb0) _ _ _ _ _ hpk hz).mono ?_
        rintro e w' ⟨rfl, hb⟩
        exact ⟨rfl, BB.of hb, fun h => absurd h hz⟩
      · rintro e w' ⟨v1, v2, rfl, h1, h2, hb, -⟩
        have h1' : Kd.R k88 88 w' w.heap.size (fun _ => True) v1 [] := by simpa [sel, hz] using h1
        have h2' : Kd.R k47 47 w' w.heap.size (fun _ => True) v2 [] := by simpa [sel, hz] using h2
        exact ⟨v1, v2, by simp [sel, hz], h1', h2', BB.of hb.out, _, blk_below ho hb.out, Kd.R_nil _ _ _ _ _⟩
set_option maxRecDepth 100000 in
set_option maxHeartbeats 4000000 in
theorem vtimer_Pass.calls (a0_0 : Int) (A0_1 : Option Addr) (c0_1 : Nat) (l0_1 : List (S88)) (A0_2 : Option Addr) (c0_2 : Nat) (l0_2 : List (S47)) (a1 : Int) (r1 : Int) (r2 : List (S88)) (r3 : List (S47)) (r4 : List (S44)) (r5 : Int) (w : World) (hr0_1 : Kd.C k88 w A0_1 l0_1.length l0_1) (hc0_1 : l0_1.length ≤ c0_1) (hr0_2 : Kd.C k47 w A0_2 l0_2.length l0_2) (hc0_2 : l0_2.length ≤ c0_2) (h : vtimer_Pass.f a0_0 l0_1 l0_2 a1 = some (r1, r2, r3, r4, r5)) :
    Calls Try.prog 10 #[.agg #[.int .i64 a0_0, .slice A0_1 l0_1.length c0_1, .slice A0_2 l0_2.length c0_2], .int .i64 a1] w fun e w' => ∃ v1_ v2_ v3_ : Value, e = .returned (.tuple #[.agg #[.int .i64 r1, v1_, v2_], v3_, .int .i64 r5]) ∧ Kd.R k88 88 w' w.heap.size (fun _ => True) v1_ r2 ∧ Kd.R k47 47 w' w.heap.size (fun _ => True) v2_ r3 ∧ Kd.R k44 44 w' w.heap.size (fun _ => True) v3_ r4 ∧ Below w.heap.size w w' := by
  unfold vtimer_Pass.f at h
  split at h
  rotate_left
  · cases h
  rename_i hn
  obtain ⟨hn1, hn2⟩ := hn
  obtain ⟨W0, hW0⟩ : ∃ W0, (((w.alloc (.cells #[.int .i64 a0_0, .slice A0_1 l0_1.length c0_1, .slice A0_2 l0_2.length c0_2] 27)).alloc (.cells #[.int .i64 a1] 2)).alloc (.cells #[.int .i64 0, .slice none 0 0, .slice none 0 0] 27)).alloc (.cells #[.slice none 0 0] 33) = W0 := ⟨_, rfl⟩
  have hs0 : W0.heap.size = w.heap.size + 4 := by subst hW0; simp
  have hb0 : Below w.heap.size w W0 := by subst hW0; exact ((((Below.refl _ w).alloc (Nat.le_refl _) _).alloc (by simp) _).alloc (by simp; omega) _).alloc (by simp; omega) _
  have k3 : W0.heap[w.heap.size]? = some (.cells #[.int .i64 a0_0, .slice A0_1 l0_1.length c0_1, .slice A0_2 l0_2.length c0_2] 27 (0, 0)) := by subst hW0; exact blk_alloc (blk_alloc (blk_alloc (blk_new _ _) _) _) _
  have k4 : W0.heap[w.heap.size + 1]? = some (.cells #[.int .i64 a1] 2 (0, 0)) := by
    have := blk_new (w.alloc (.cells #[.int .i64 a0_0, .slice A0_1 l0_1.length c0_1, .slice A0_2 l0_2.length c0_2] 27)) (.cells #[.int .i64 a1] 2)
    rw [World.size_alloc] at this
    subst hW0; exact blk_alloc (blk_alloc this _) _
  have k5 : W0.heap[w.heap.size + 1 + 1]? = some (.cells #[.int .i64 0, .slice none 0 0, .slice none 0 0] 27 (0, 0)) := by
    have := blk_new ((w.alloc (.cells #[.int .i64 a0_0, .slice A0_1 l0_1.length c0_1, .slice A0_2 l0_2.length c0_2] 27)).alloc (.cells #[.int .i64 a1] 2)) (.cells #[.int .i64 0, .slice none 0 0, .slice none 0 0] 27)
    rw [World.size_alloc, World.size_alloc] at this
    subst hW0; exact blk_alloc this _
  have k6 : W0.heap[w.heap.size + 1 + 1 + 1]? = some (.cells #[.slice none 0 0] 33 (0, 0)) := by
    have := blk_new (((w.alloc (.cells #[.int .i64 a0_0, .slice A0_1 l0_1.length c0_1, .slice A0_2 l0_2.length c0_2] 27)).alloc (.cells #[.int .i64 a1] 2)).alloc (.cells #[.int .i64 0, .slice none 0 0, .slice none 0 0] 27)) (.cells #[.slice none 0 0] 33)
    rw [World.size_alloc, World.size_alloc, World.size_alloc] at this
    subst hW0; exact this
  have hst := pass_with W0 a0_0 A0_1 c0_1 l0_1 A0_2 c0_2 l0_2 a1 (w.heap.size + 1) (w.heap.size + 1 + 1 + 1) (.slice none 0 0) (Kd.C_below hr0_1 hb0) hc0_1 (Kd.C_below hr0_2 hb0) hc0_2 hn1 hn2 k4 k6 r1 r2 r3 r4 r5 h
  have u0 : W0.cell? ⟨w.heap.size, 0, none⟩ = some (.int .i64 a0_0) := (blk_cell k3 0).trans rfl
  have u1 : W0.cell? ⟨w.heap.size, 1, none⟩ = some (.slice A0_1 l0_1.length c0_1) := (blk_cell k3 1).trans rfl
  have u2 : W0.cell? ⟨w.heap.size, 2, none⟩ = some (.slice A0_2 l0_2.length c0_2) := (blk_cell k3 2).trans rfl
  have HST := Lib.hid hst
  have HB0 := Lib.hid hb0
  have HK5 := Lib.hid k5
  clear hst h hr0_1 hr0_2 hb0 k3 k4 k5 k6
  go_enter Try.func10, Try.ntmps10
  go_wp2_with fail
  clear hW0
  refine (HST.out).mono ?_
  rintro e w2 ⟨v1, v2, rfl, h1, h2, hbb, v3, hv3, h3⟩
  obtain ⟨B1, d1, e1⟩ := Kd.R_slice h1
  obtain ⟨B2, d2, e2⟩ := Kd.R_slice h2
  obtain ⟨B3, d3, e3⟩ := Kd.R_slice h3
  subst e1
  subst e2
  subst e3
  clear u0 u1 u2
  have hs2 := hbb.size
  have HBW := Lib.hid (show Below w.heap.size w w2 from ⟨hbb.os.trans HB0.out.os, hbb.tape.trans HB0.out.tape, hbb.output.trans HB0.out.output, Nat.le_trans HB0.out.size hbb.size, fun k hk => (hbb.block k (by omega) (by omega)).trans (HB0.out.block k hk)⟩)
  have k5b := hbb.blk HK5.out (by omega)
  have HT := Lib.hid h1
  have HA := Lib.hid h2
  have HR := Lib.hid h3
  have HV := Lib.hid hv3
  have HK5b := Lib.hid k5b
  clear h1 h2 h3 hv3 k5b hbb
  go_wp2_with fail
  obtain ⟨W3, hW3⟩ : ∃ W3, w2.alloc (.cells #[.int .i64 r1, .slice B1 r2.length d1, .slice B2 r3.length d2] 27) = W3 := ⟨_, rfl⟩
  have hb3 : Below w2.heap.size w2 W3 := by subst hW3; exact (Below.refl _ w2).alloc (Nat.le_refl _) _
  have q8 : W3.heap[w2.heap.size]? = some (.cells #[.int .i64 r1, .slice B1 r2.length d1, .slice B2 r3.length d2] 27 (0, 0)) := by subst hW3; exact blk_new _ _
  have q5 := blk_below HK5b.out hb3
  have q7 := blk_below HV.out hb3
  have m0 : W3.cell? ⟨w2.heap.size, 0, none⟩ = some (.int .i64 r1) := (blk_cell q8 0).trans rfl
  have m1 : W3.cell? ⟨w2.heap.size, 1, none⟩ = some (.slice B1 r2.length d1) := (blk_cell q8 1).trans rfl
  have m2 : W3.cell? ⟨w2.heap.size, 2, none⟩ = some (.slice B2 r3.length d2) := (blk_cell q8 2).trans rfl
  have m3 : W3.cell? ⟨w.heap.size + 1 + 1 + 1, 0, none⟩ = some (.slice B3 r4.length d3) := (blk_cell q7 0).trans rfl
  have p0 : W3.cell? ⟨w.heap.size + 1 + 1, 0, none⟩ = some (.int .i64 0) := (blk_cell q5 0).trans rfl
  have p1 : W3.cell? ⟨w.heap.size + 1 + 1, 1, none⟩ = some (.slice none 0 0) := (blk_cell q5 1).trans rfl
  have p2 : W3.cell? ⟨w.heap.size + 1 + 1, 2, none⟩ = some (.slice none 0 0) := (blk_cell q5 2).trans rfl
  have y0 := blk_frozen q5 0
  have y1 := blk_frozen q5 1
  have y2 := blk_frozen q5 2
  have HBW3 := Lib.hid (below_step HBW.out hb3)
  have HT3 := Lib.hid (Kd.R_below HT.out hb3)
  have HA3 := Lib.hid (Kd.R_below HA.out hb3)
  have HR3 := Lib.hid (Kd.R_below HR.out hb3)
  have HQ5 := Lib.hid q5
  have HQ8 := Lib.hid q8
  have HQ7 := Lib.hid q7
  have hn1' : w2.heap.size ≠ w.heap.size + 1 + 1 := by omega
  have hn2' : w.heap.size + 1 + 1 + 1 ≠ w.heap.size + 1 + 1 := by omega
  rw [hW3]
  clear hW3 hb3 q8 q5 q7
  refine st_ 6 (fun W => W.cell? ⟨w2.heap.size, 0, none⟩ = some (.int .i64 r1) ∧ W.cell? ⟨w2.heap.size, 1, none⟩ = some (.slice B1 r2.length d1) ∧ W.cell? ⟨w2.heap.size, 2, none⟩ = some (.slice B2 r3.length d2) ∧ W.cell? ⟨w.heap.size + 1 + 1 + 1, 0, none⟩ = some (.slice B3 r4.length d3)) [] ⟨m0, m1, m2, m3⟩ (fun hHeld => ?_)
  refine tk_ 0 16 rfl rfl hHeld (by rintro w' ⟨s0, s1, s2, s3⟩; go_simp; with_reducible rfl) ?_
  refine tk_ 1 17 rfl rfl hHeld (by rintro w' ⟨s0, s1, s2, s3⟩; go_simp; with_reducible rfl) ?_
  refine pk_ 2 18 ?_
  refine one_ (i := 3) (N := none) #[true, true, true, true, false, false] rfl rfl (by kernel_rfl) (by decide) (fun K hK => ?_)
  refine skip_ (w1 := (((W3.setCell ⟨w.heap.size + 1 + 1, 0, none⟩ (.int .i64 r1)).setCell ⟨w.heap.size + 1 + 1, 1, none⟩ (.slice B1 r2.length d1)).setCell ⟨w.heap.size + 1 + 1, 2, none⟩ (.slice B2 r3.length d2)).drew) (by rfl) rfl (by go_simp; try rfl) ?_
  refine hK.out _ _ ⟨(blk_cell (blk_far (blk_far (blk_far HQ8.out hn1' _) hn1' _) hn1' _) 0).trans rfl, (blk_cell (blk_far (blk_far (blk_far HQ8.out hn1' _) hn1' _) hn1' _) 1).trans rfl, (blk_cell (blk_far (blk_far (blk_far HQ8.out hn1' _) hn1' _) hn1' _) 2).trans rfl, (blk_cell (blk_far (blk_far (blk_far HQ7.out hn2' _) hn2' _) hn2' _) 0).trans rfl⟩ (fun hHeld => ?_)
  clear hK K
  refine pk_ 4 5 ?_
  refine pk_ 5 6 ?_
  refine done_ (by kernel_rfl) ?_
  go_wp2
  have X1 := blk_put HQ5.out 0 (.int .i64 r1) (cs' := #[.int .i64 r1, .slice none 0 0, .slice none 0 0]) rfl
  have X2 := blk_put X1 1 (.slice B1 r2.length d1) (cs' := #[.int .i64 r1, .slice B1 r2.length d1, .slice none 0 0]) rfl
  have X3 := blk_put X2 2 (.slice B2 r3.length d2) (cs' := #[.int .i64 r1, .slice B1 r2.length d1, .slice B2 r3.length d2]) rfl
  refine bodyPost_ret (results_ctt rfl _ _ (w.heap.size + 1 + 1) 27 #[.int .i64 r1, .slice B1 r2.length d1, .slice B2 r3.length d2] (0, 0) _ rfl (by exact X3) Try.underlying27 rfl (by kernel_rfl)) rfl ?_
  refine ⟨_, _, _, rfl, ?_, ?_, ?_, below_drew (below_set (below_set (below_set HBW3.out (by omega)) (by omega)) (by omega))⟩
  · exact Kd.R_drew (Kd.R_lower (Kd.R_mono (Kd.R_far (p := ⟨w.heap.size + 1 + 1, 2, none⟩) (Kd.R_far (p := ⟨w.heap.size + 1 + 1, 1, none⟩) (Kd.R_far (p := ⟨w.heap.size + 1 + 1, 0, none⟩) (Kd.R_types HT3.out HQ5.out (by decide)) (fun k hk => hk.2) _) (fun k hk => hk.2) _) (fun k hk => hk.2) _) (fun _ _ => trivial)) (by omega))
  · exact Kd.R_drew (Kd.R_lower (Kd.R_mono (Kd.R_far (p := ⟨w.heap.size + 1 + 1, 2, none⟩) (Kd.R_far (p := ⟨w.heap.size + 1 + 1, 1, none⟩) (Kd.R_far (p := ⟨w.heap.size + 1 + 1, 0, none⟩) (Kd.R_types HA3.out HQ5.out (by decide)) (fun k hk => hk.2) _) (fun k hk => hk.2) _) (fun k hk => hk.2) _) (fun _ _ => trivial)) (by omega))
  · exact Kd.R_drew (Kd.R_lower (Kd.R_mono (Kd.R_far (p := ⟨w.heap.size + 1 + 1, 2, none⟩) (Kd.R_far (p := ⟨w.heap.size + 1 + 1, 1, none⟩) (Kd.R_far (p := ⟨w.heap.size + 1 + 1, 0, none⟩) (Kd.R_types HR3.out HQ5.out (by decide)) (fun k hk => hk.2) _) (fun k hk => hk.2) _) (fun k hk => hk.2) _) (fun _ _ => trivial)) (by omega))
end Go.Proofs.Ytlddekjlmkimnaa.C
