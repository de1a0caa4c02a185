import Derived.Test.YtlddekjlmkimnaaJ5
import Derived.Test.YtlddekjlmkimnaaJ32
import Derived.Test.YtlddekjlmkimnaaJ28
import Derived.Test.YtlddekjlmkimnaaC13
namespace Go.Proofs.Ytlddekjlmkimnaa.C
open Go.RowKit Go.Shelf Go.Proofs.YtlddekjlmkimnaaW.PrintWords Go.Proofs.YtlddekjlmkimnaaW.PrintLast Go.Proofs.YtlddekjlmkimnaaW.PrintMore
set_option linter.unusedVariables false
set_option linter.unusedSimpArgs false
attribute [local go_sem ↓] Go.wp_at_zero Go.wp_at_succ

/-- vtimer.rings: the function over which one ranges. -/
theorem rings_any (g : Nat) (Af : Option Addr) (n cf : Nat) (w : World) :
 Calls Try.prog 36 #[.pointer (some ⟨g, 0, none⟩), .slice Af n cf] w fun e w' => e = .returned (.func (.func 64) #[] #[.pointer (some ⟨w.heap.size + 1, 0, none⟩), .pointer (some ⟨w.heap.size, 0, none⟩)]) ∧ w' = (w.alloc (.cells #[.pointer (some ⟨g, 0, none⟩)] 71)).alloc (.cells #[.slice Af n cf] 22) := by
 go_enter Try.func36, Try.ntmps36
 go_wp2
 go_ret
 exact ⟨rfl, rfl⟩

set_option maxRecDepth 100000 in
set_option maxHeartbeats 8000000 in
theorem pass1_bad (w0 w : World) (g p o : Nat) (now : Int) (ts : List S88) (rs : List S47) (sv rv : Value) (to' : Int) (hB : Below w0.heap.size w0 w) (ha : AO w w0.heap.size g now ts rs sv rv) (hp : w0.heap[p]? = some (.cells #[.int .i64 to'] 2 (0, 0)))
 (K0 : Nat) (z : Int) (l1 l2 : List S88) (ez : Int) (h : wheel_Pass.f K0 now ts to' = some (z, l1, l2, ez)) (hz : ez ≠ 0) :
 Calls Try.prog 33 #[.pointer (some ⟨g, 0, none⟩), .pointer (some ⟨p, 0, none⟩), .pointer (some ⟨o, 0, none⟩)] w fun e w' => e = .returned (.int .i64 ez) ∧ Below w0.heap.size w0 w' := by
 obtain ⟨As, cs, hlc, esv, -⟩ : ∃ As cs, ts.length ≤ cs ∧ sv = .slice As ts.length cs ∧ True := by
  obtain ⟨A, c, h1, h2, h3⟩ := Kd.R_reads ha.T
  exact ⟨A, c, h2, h1, trivial⟩
 subst esv
 have hgw := blk_lt ha.blk
 have hpw : p < w.heap.size := Nat.lt_of_lt_of_le (blk_lt hp) hB.size
 have c0 : w.cell? ⟨g, 0, none⟩ = some (.int .i64 now) := (blk_cell ha.blk 0).trans rfl
 have c1 : w.cell? ⟨g, 1, none⟩ = some (.slice As ts.length cs) := (blk_cell ha.blk 1).trans rfl
 have c2 : w.cell? ⟨p, 0, none⟩ = some (.int .i64 to') := (blk_cell (blk_below hp hB) 0).trans rfl
 have HP := Lib.hid (fun W (hb : Below w.heap.size w W) => wheel_Pass.calls K0 now As cs ts to' z l1 l2 ez W (Kd.R_reads' (Kd.R_below ha.T hb)).2.2 hlc h)
 have HB := Lib.hid hB
 have HA := Lib.hid ha
 have hz1 : (ez != 0) = true := by simpa using hz
 clear ha hB h hz
 go_enter Try.func33, Try.ntmps33
 go_wp2_with fail
 refine st_ 14 (fun W => W.cell? ⟨g, 0, none⟩ = some (.int .i64 now) ∧ W.cell? ⟨g, 1, none⟩ = some (.slice As ts.length cs) ∧ W.cell? ⟨p, 0, none⟩ = some (.int .i64 to')) [11, 12, 13] ⟨c0, c1, c2⟩ (fun hHeld => ?_)
 refine pk_ 0 9 ?_
 refine pk_ 1 10 ?_
 refine pk_ 2 11 ?_
 refine tk_ 3 12 rfl rfl hHeld (by rintro w' ⟨s0, s1, s2⟩; go_simp; with_reducible rfl) ?_
 refine tk_ 4 13 rfl rfl hHeld (by rintro w' ⟨s0, s1, s2⟩; go_simp; with_reducible rfl) ?_
 refine join_ (σ := Option Addr × Nat × Option Addr × Nat × Nat) 3 #[true, true, true, true, true, true, true, true, true, true, true, false, false, false] (fun s => [(14, .tuple #[.agg #[.int .i64 z, .slice s.1 l1.length s.2.1], .slice s.2.2.1 l2.length s.2.2.2.1, .int .i64 ez]), (8, .tuple #[.agg #[.int .i64 z, .slice s.1 l1.length s.2.1], .slice s.2.2.1 l2.length s.2.2.2.1, .int .i64 ez]), (15, .agg #[.int .i64 z, .slice s.1 l1.length s.2.1]), (16, .slice s.2.2.1 l2.length s.2.2.2.1), (17, .int .i64 ez), (5, .pointer (some ⟨s.2.2.2.2, 0, none⟩))]) (fun s W => Below w.heap.size w W ∧ w.heap.size ≤ s.2.2.2.2 ∧ W.heap[s.2.2.2.2]? = some (.cells #[.int .i64 0, .slice none 0 0] 24 (0, 0)) ∧ Kd.R k88 88 W w.heap.size (fun _ => True) (.slice s.1 l1.length s.2.1) l1 ∧ Kd.R k88 88 W w.heap.size (fun _ => True) (.slice s.2.2.1 l2.length s.2.2.2.1) l2) ?_ ?_
 rotate_left
 · intro hJ_
   refine two_ (i := 5) (j := 10) (Ni := some 14) (Nj := some 5) #[true, true, true, true, true, true, false, false, false, false, false, false, false, false] #[true, true, true, true, true, false, false, false, false, false, true, false, false, false] rfl rfl rfl rfl (by kernel_rfl) (by decide) (by decide) (fun K hK => ?_) (fun K hK => ?_)
   · skip
     refine goes_ Try.func34 (by kernel_rfl) rfl #[.agg #[.int .i64 now, .slice As ts.length cs], .int .i64 to'] (by rfl) rfl rfl M_ ?_
     refine (HP.out w.drew (below_drew (Below.refl _ _))).mono ?_
     rintro e w4 ⟨v1, v2, rfl, h1, h2, hb4⟩
     obtain ⟨A6, c6, e6⟩ := Kd.R_slice h1
     obtain ⟨A7, c7, e7⟩ := Kd.R_slice h2
     subst e6
     subst e7
     have HB4 := Lib.hid (below_step (below_drew (Below.refl _ w)) hb4)
     refine ⟨_, rfl, ?_⟩
     refine hK.out _ _ ⟨(HB4.out.cell hgw).trans c0, (HB4.out.cell hgw).trans c1, (HB4.out.cell hpw).trans c2⟩ (fun hHeld => ?_)
     clear hK K
     refine nm_ 14 ?_
     refine pk_ 6 8 ?_
     refine pk_ 7 15 ?_
     refine pk_ 8 16 ?_
     refine pk_ 9 17 ?_
     refine ok1_ 10 5 rfl rfl (fun K hK => ?_)
     refine value_ (v := .pointer (some ⟨w4.heap.size, 0, none⟩)) (w1 := w4.alloc (.cells #[.int .i64 0, .slice none 0 0] 24)) (by rfl) rfl (by go_simp; try rfl) ?_
     refine hK.out _ _ ⟨((below_alloc HB4.out _).cell hgw).trans c0, ((below_alloc HB4.out _).cell hgw).trans c1, ((below_alloc HB4.out _).cell hpw).trans c2⟩ (fun hHeld => ?_)
     clear hK K
     refine nm_ 5 ?_
     exact norm_ Pa_ (hJ_ (A6, c6, A7, c7, w4.heap.size) _ ⟨below_alloc HB4.out _, HB4.out.size, blk_new _ _, Kd.R_alloc (Kd.R_mono (Kd.R_lower h1 (Nat.le_refl _)) (fun _ _ => trivial)) _, Kd.R_alloc (Kd.R_mono (Kd.R_lower h2 (Nat.le_refl _)) (fun _ _ => trivial)) _⟩)
   · skip
     refine value_ (v := .pointer (some ⟨w.heap.size, 0, none⟩)) (w1 := (w.alloc (.cells #[.int .i64 0, .slice none 0 0] 24)).drew) (by rfl) rfl (by go_simp; try rfl) ?_
     have HBx := Lib.hid (below_drew (below_alloc (Below.refl w.heap.size w) (.cells #[.int .i64 0, .slice none 0 0] 24)))
     refine hK.out _ _ ⟨(HBx.out.cell hgw).trans c0, (HBx.out.cell hgw).trans c1, (HBx.out.cell hpw).trans c2⟩ (fun hHeld => ?_)
     clear hK K
     refine nm_ 5 ?_
     refine ok1_ 5 14 rfl rfl (fun K hK => ?_)
     refine goes_ Try.func34 (by kernel_rfl) rfl #[.agg #[.int .i64 now, .slice As ts.length cs], .int .i64 to'] (by rfl) rfl rfl M_ ?_
     refine (HP.out _ HBx.out).mono ?_
     rintro e w4 ⟨v1, v2, rfl, h1, h2, hb4⟩
     obtain ⟨A6, c6, e6⟩ := Kd.R_slice h1
     obtain ⟨A7, c7, e7⟩ := Kd.R_slice h2
     subst e6
     subst e7
     have HB4 := Lib.hid (below_step HBx.out hb4)
     refine ⟨_, rfl, ?_⟩
     refine hK.out _ _ ⟨(HB4.out.cell hgw).trans c0, (HB4.out.cell hgw).trans c1, (HB4.out.cell hpw).trans c2⟩ (fun hHeld => ?_)
     clear hK K
     refine nm_ 14 ?_
     refine pk_ 6 8 ?_
     refine pk_ 7 15 ?_
     refine pk_ 8 16 ?_
     refine pk_ 9 17 ?_
     exact norm_ Pa_ (hJ_ (A6, c6, A7, c7, w.heap.size) _ ⟨HB4.out, Nat.le_refl _, blk_below (w := (w.alloc (.cells #[.int .i64 0, .slice none 0 0] 24)).drew) (blk_new w _) hb4, Kd.R_mono (Kd.R_lower h1 HBx.out.size) (fun _ _ => trivial), Kd.R_mono (Kd.R_lower h2 HBx.out.size) (fun _ _ => trivial)⟩)
 rintro ⟨A6, c6, A7, c7, b5⟩ w5 ⟨hb5, hg5, hk5, h1, h2⟩
 refine norm_ (a' := ?_) ?_ ?_
 rotate_left
 · simp only [putAll, Act.put, List.setIfInBounds_toArray, List.set_cons_zero, List.set_cons_succ]
   rfl
 refine last_ (i := 11) (N := none) #[true, true, true, true, true, true, true, true, true, true, true, true, false, false] rfl rfl (by kernel_rfl) (by decide) (fun K hK => ?_)
 have q0 : w5.cell? ⟨b5, 0, none⟩ = some (.int .i64 0) := (blk_cell hk5 0).trans rfl
 have q1 : w5.cell? ⟨b5, 1, none⟩ = some (.slice none 0 0) := (blk_cell hk5 1).trans rfl
 have z0 := blk_frozen hk5 0
 have z1 := blk_frozen hk5 1
 refine skip_ (w1 := (w5.setCell ⟨b5, 0, none⟩ (.int .i64 z)).setCell ⟨b5, 1, none⟩ (.slice A6 l1.length c6)) (by rfl) rfl (by go_simp; try rfl) ?_
 refine hK.out _ _ ?_
 clear hK K
 refine pk_ 12 6 ?_
 refine pk_ 13 7 ?_
 refine done_ (by kernel_rfl) ?_
 have HB5 := Lib.hid (below_set (j := 1) (v := .slice A6 l1.length c6) (below_set (j := 0) (v := .int .i64 z) (below_step HB.out hb5) (Nat.le_trans HB.out.size hg5)) (Nat.le_trans HB.out.size hg5))
 clear hb5 h1 h2 hk5 q0 q1 z0 z1
 go_wp2
 go_ret
 exact ⟨rfl, HB5.out⟩

set_option maxRecDepth 100000 in
set_option maxHeartbeats 8000000 in
theorem pass1_ok (w0 w : World) (g p o : Nat) (now : Int) (ts : List S88) (rs : List S47) (sv rv : Value) (to' : Int) (hB : Below w0.heap.size w0 w) (ha : AO w w0.heap.size g now ts rs sv rv) (hp : w0.heap[p]? = some (.cells #[.int .i64 to'] 2 (0, 0)))
 (K0 : Nat) (z : Int) (l1 l2 : List S88) (v0 : Value) (ho : w0.heap[o]? = some (.cells #[v0] 33 (0, 0))) (h : wheel_Pass.f K0 now ts to' = some (z, l1, l2, 0)) (fin : List S88 × List S47 × List S44) (hgo : ringsGo z l1 rs [] l2 = some fin) (hL : l2.length ≤ 1000000) (hnow : 0 ≤ z ∧ z ≤ 1125899906842624) :
 Calls Try.prog 33 #[.pointer (some ⟨g, 0, none⟩), .pointer (some ⟨p, 0, none⟩), .pointer (some ⟨o, 0, none⟩)] w fun e w' => e = .returned (.int .i64 0) ∧ BB (fun k => k = o) w0 w' ∧ (∃ sv' rv', AO w' w0.heap.size g z fin.1 fin.2.1 sv' rv') ∧ ∃ v, w'.heap[o]? = some (.cells #[v] 33 (0, 0)) ∧ Kd.R k44 44 w' w0.heap.size (fun _ => True) v fin.2.2 := by
 obtain ⟨ez, hez⟩ : ∃ ez : Int, ez = 0 := ⟨0, rfl⟩
 rw [← hez] at h
 have HEZ := Lib.hid hez
 clear hez
 obtain ⟨As, cs, hlc, esv, -⟩ : ∃ As cs, ts.length ≤ cs ∧ sv = .slice As ts.length cs ∧ True := by
  obtain ⟨A, c, h1, h2, h3⟩ := Kd.R_reads ha.T
  exact ⟨A, c, h2, h1, trivial⟩
 subst esv
 have hgw := blk_lt ha.blk
 have hpw : p < w.heap.size := Nat.lt_of_lt_of_le (blk_lt hp) hB.size
 have c0 : w.cell? ⟨g, 0, none⟩ = some (.int .i64 now) := (blk_cell ha.blk 0).trans rfl
 have c1 : w.cell? ⟨g, 1, none⟩ = some (.slice As ts.length cs) := (blk_cell ha.blk 1).trans rfl
 have c2 : w.cell? ⟨p, 0, none⟩ = some (.int .i64 to') := (blk_cell (blk_below hp hB) 0).trans rfl
 have HP := Lib.hid (fun W (hb : Below w.heap.size w W) => wheel_Pass.calls K0 now As cs ts to' z l1 l2 ez W (Kd.R_reads' (Kd.R_below ha.T hb)).2.2 hlc h)
 have HB := Lib.hid hB
 have HA := Lib.hid ha
 have HO := Lib.hid ho
 clear ha hB h ho
 go_enter Try.func33, Try.ntmps33
 go_wp2_with fail
 refine st_ 14 (fun W => W.cell? ⟨g, 0, none⟩ = some (.int .i64 now) ∧ W.cell? ⟨g, 1, none⟩ = some (.slice As ts.length cs) ∧ W.cell? ⟨p, 0, none⟩ = some (.int .i64 to')) [11, 12, 13] ⟨c0, c1, c2⟩ (fun hHeld => ?_)
 refine pk_ 0 9 ?_
 refine pk_ 1 10 ?_
 refine pk_ 2 11 ?_
 refine tk_ 3 12 rfl rfl hHeld (by rintro w' ⟨s0, s1, s2⟩; go_simp; with_reducible rfl) ?_
 refine tk_ 4 13 rfl rfl hHeld (by rintro w' ⟨s0, s1, s2⟩; go_simp; with_reducible rfl) ?_
 refine join_ (σ := Option Addr × Nat × Option Addr × Nat × Nat) 3 #[true, true, true, true, true, true, true, true, true, true, true, false, false, false] (fun s => [(14, .tuple #[.agg #[.int .i64 z, .slice s.1 l1.length s.2.1], .slice s.2.2.1 l2.length s.2.2.2.1, .int .i64 ez]), (8, .tuple #[.agg #[.int .i64 z, .slice s.1 l1.length s.2.1], .slice s.2.2.1 l2.length s.2.2.2.1, .int .i64 ez]), (15, .agg #[.int .i64 z, .slice s.1 l1.length s.2.1]), (16, .slice s.2.2.1 l2.length s.2.2.2.1), (17, .int .i64 ez), (5, .pointer (some ⟨s.2.2.2.2, 0, none⟩))]) (fun s W => Below w.heap.size w W ∧ w.heap.size ≤ s.2.2.2.2 ∧ W.heap[s.2.2.2.2]? = some (.cells #[.int .i64 0, .slice none 0 0] 24 (0, 0)) ∧ Kd.R k88 88 W w.heap.size (fun _ => True) (.slice s.1 l1.length s.2.1) l1 ∧ Kd.R k88 88 W w.heap.size (fun _ => True) (.slice s.2.2.1 l2.length s.2.2.2.1) l2) ?_ ?_
 rotate_left
 · intro hJ_
   refine two_ (i := 5) (j := 10) (Ni := some 14) (Nj := some 5) #[true, true, true, true, true, true, false, false, false, false, false, false, false, false] #[true, true, true, true, true, false, false, false, false, false, true, false, false, false] rfl rfl rfl rfl (by kernel_rfl) (by decide) (by decide) (fun K hK => ?_) (fun K hK => ?_)
   · skip
     refine goes_ Try.func34 (by kernel_rfl) rfl #[.agg #[.int .i64 now, .slice As ts.length cs], .int .i64 to'] (by rfl) rfl rfl M_ ?_
     refine (HP.out w.drew (below_drew (Below.refl _ _))).mono ?_
     rintro e w4 ⟨v1, v2, rfl, h1, h2, hb4⟩
     obtain ⟨A6, c6, e6⟩ := Kd.R_slice h1
     obtain ⟨A7, c7, e7⟩ := Kd.R_slice h2
     subst e6
     subst e7
     have HB4 := Lib.hid (below_step (below_drew (Below.refl _ w)) hb4)
     refine ⟨_, rfl, ?_⟩
     refine hK.out _ _ ⟨(HB4.out.cell hgw).trans c0, (HB4.out.cell hgw).trans c1, (HB4.out.cell hpw).trans c2⟩ (fun hHeld => ?_)
     clear hK K
     refine nm_ 14 ?_
     refine pk_ 6 8 ?_
     refine pk_ 7 15 ?_
     refine pk_ 8 16 ?_
     refine pk_ 9 17 ?_
     refine ok1_ 10 5 rfl rfl (fun K hK => ?_)
     refine value_ (v := .pointer (some ⟨w4.heap.size, 0, none⟩)) (w1 := w4.alloc (.cells #[.int .i64 0, .slice none 0 0] 24)) (by rfl) rfl (by go_simp; try rfl) ?_
     refine hK.out _ _ ⟨((below_alloc HB4.out _).cell hgw).trans c0, ((below_alloc HB4.out _).cell hgw).trans c1, ((below_alloc HB4.out _).cell hpw).trans c2⟩ (fun hHeld => ?_)
     clear hK K
     refine nm_ 5 ?_
     exact norm_ Pa_ (hJ_ (A6, c6, A7, c7, w4.heap.size) _ ⟨below_alloc HB4.out _, HB4.out.size, blk_new _ _, Kd.R_alloc (Kd.R_mono (Kd.R_lower h1 (Nat.le_refl _)) (fun _ _ => trivial)) _, Kd.R_alloc (Kd.R_mono (Kd.R_lower h2 (Nat.le_refl _)) (fun _ _ => trivial)) _⟩)
   · skip
     refine value_ (v := .pointer (some ⟨w.heap.size, 0, none⟩)) (w1 := (w.alloc (.cells #[.int .i64 0, .slice none 0 0] 24)).drew) (by rfl) rfl (by go_simp; try rfl) ?_
     have HBx := Lib.hid (below_drew (below_alloc (Below.refl w.heap.size w) (.cells #[.int .i64 0, .slice none 0 0] 24)))
     refine hK.out _ _ ⟨(HBx.out.cell hgw).trans c0, (HBx.out.cell hgw).trans c1, (HBx.out.cell hpw).trans c2⟩ (fun hHeld => ?_)
     clear hK K
     refine nm_ 5 ?_
     refine ok1_ 5 14 rfl rfl (fun K hK => ?_)
     refine goes_ Try.func34 (by kernel_rfl) rfl #[.agg #[.int .i64 now, .slice As ts.length cs], .int .i64 to'] (by rfl) rfl rfl M_ ?_
     refine (HP.out _ HBx.out).mono ?_
     rintro e w4 ⟨v1, v2, rfl, h1, h2, hb4⟩
     obtain ⟨A6, c6, e6⟩ := Kd.R_slice h1
     obtain ⟨A7, c7, e7⟩ := Kd.R_slice h2
     subst e6
     subst e7
     have HB4 := Lib.hid (below_step HBx.out hb4)
     refine ⟨_, rfl, ?_⟩
     refine hK.out _ _ ⟨(HB4.out.cell hgw).trans c0, (HB4.out.cell hgw).trans c1, (HB4.out.cell hpw).trans c2⟩ (fun hHeld => ?_)
     clear hK K
     refine nm_ 14 ?_
     refine pk_ 6 8 ?_
     refine pk_ 7 15 ?_
     refine pk_ 8 16 ?_
     refine pk_ 9 17 ?_
     exact norm_ Pa_ (hJ_ (A6, c6, A7, c7, w.heap.size) _ ⟨HB4.out, Nat.le_refl _, blk_below (w := (w.alloc (.cells #[.int .i64 0, .slice none 0 0] 24)).drew) (blk_new w _) hb4, Kd.R_mono (Kd.R_lower h1 HBx.out.size) (fun _ _ => trivial), Kd.R_mono (Kd.R_lower h2 HBx.out.size) (fun _ _ => trivial)⟩)
 rintro ⟨A6, c6, A7, c7, b5⟩ w5 ⟨hb5, hg5, hk5, h1, h2⟩
 refine norm_ (a' := ?_) ?_ ?_
 rotate_left
 · simp only [putAll, Act.put, List.setIfInBounds_toArray, List.set_cons_zero, List.set_cons_succ]
   rfl
 refine last_ (i := 11) (N := none) #[true, true, true, true, true, true, true, true, true, true, true, true, false, false] rfl rfl (by kernel_rfl) (by decide) (fun K hK => ?_)
 have q0 : w5.cell? ⟨b5, 0, none⟩ = some (.int .i64 0) := (blk_cell hk5 0).trans rfl
 have q1 : w5.cell? ⟨b5, 1, none⟩ = some (.slice none 0 0) := (blk_cell hk5 1).trans rfl
 have z0 := blk_frozen hk5 0
 have z1 := blk_frozen hk5 1
 refine skip_ (w1 := (w5.setCell ⟨b5, 0, none⟩ (.int .i64 z)).setCell ⟨b5, 1, none⟩ (.slice A6 l1.length c6)) (by rfl) rfl (by go_simp; try rfl) ?_
 refine hK.out _ _ ?_
 clear hK K
 refine pk_ 12 6 ?_
 refine pk_ 13 7 ?_
 refine done_ (by kernel_rfl) ?_
 have hez := HEZ.out
 subst hez
 obtain ⟨W6, hW6⟩ : ∃ W6, (w5.setCell ⟨b5, 0, none⟩ (.int .i64 z)).setCell ⟨b5, 1, none⟩ (.slice A6 l1.length c6) = W6 := ⟨_, rfl⟩
 have hb6 : Below w.heap.size w W6 := by rw [← hW6]; exact below_set (below_set hb5 hg5) hg5
 have k6 : W6.heap[b5]? = some (.cells #[.int .i64 z, .slice A6 l1.length c6] 24 (0, 0)) := by
  rw [← hW6]; exact blk_put (blk_put hk5 0 _ (cs' := #[.int .i64 z, .slice none 0 0]) rfl) 1 _ rfl
 have r1 : Kd.R k88 88 W6 w.heap.size (fun _ => True) (.slice A6 l1.length c6) l1 := by
  rw [← hW6]; exact Kd.R_mono (Kd.R_far (p := ⟨b5, 1, none⟩) (Kd.R_far (p := ⟨b5, 0, none⟩) (Kd.R_types h1 hk5 (by decide)) (fun k hk => hk.2) _) (fun k hk => hk.2) _) (fun _ _ => trivial)
 have r2 : Kd.R k88 88 W6 w.heap.size (fun _ => True) (.slice A7 l2.length c7) l2 := by
  rw [← hW6]; exact Kd.R_mono (Kd.R_far (p := ⟨b5, 1, none⟩) (Kd.R_far (p := ⟨b5, 0, none⟩) (Kd.R_types h2 hk5 (by decide)) (fun k hk => hk.2) _) (fun k hk => hk.2) _) (fun _ _ => trivial)
 have ha6 := HA.out.below hb6
 have HB6 := Lib.hid (below_step HB.out hb6)
 have HA6 := Lib.hid ha6
 have R1 := Lib.hid (Kd.R_lower r1 HB.out.size)
 have R2 := Lib.hid (Kd.R_lower r2 HB.out.size)
 have m0 : W6.cell? ⟨b5, 0, none⟩ = some (.int .i64 z) := (blk_cell k6 0).trans rfl
 have m1 : W6.cell? ⟨b5, 1, none⟩ = some (.slice A6 l1.length c6) := (blk_cell k6 1).trans rfl
 have g0 : W6.cell? ⟨g, 0, none⟩ = some (.int .i64 now) := (blk_cell ha6.blk 0).trans rfl
 have g1 : W6.cell? ⟨g, 1, none⟩ = some (.slice As ts.length cs) := (blk_cell ha6.blk 1).trans rfl
 have y0 := blk_frozen ha6.blk 0
 have y1 := blk_frozen ha6.blk 1
 have hgl : w0.heap.size ≤ g := ha6.lo
 first | rw [hW6] | skip
 clear hW6 hb6 k6 r1 r2 ha6 hb5 h1 h2 hk5 q0 q1 z0 z1 c0 c1 c2 HP
 go_wp2_with fail
 refine (rings_any g A7 l2.length c7 _).mono ?_
 rintro e w7 ⟨rfl, rfl⟩
 have ha7 := HA6.out.put z (.slice A6 l1.length c6) l1 R1.out
 have hb7 : Below w0.heap.size w0 ((W6.setCell ⟨g, 0, none⟩ (.int .i64 z)).setCell ⟨g, 1, none⟩ (.slice A6 l1.length c6)) := below_set (below_set HB6.out hgl) hgl
 have fr7 : Kd.R k88 88 ((W6.setCell ⟨g, 0, none⟩ (.int .i64 z)).setCell ⟨g, 1, none⟩ (.slice A6 l1.length c6)) w0.heap.size (fun _ => True) (.slice A7 l2.length c7) l2 :=
  Kd.R_mono (Kd.R_far (p := ⟨g, 1, none⟩) (Kd.R_far (p := ⟨g, 0, none⟩) (Kd.R_types R2.out HA6.out.blk (by decide)) (fun k hk => hk.2) _) (fun k hk => hk.2) _) (fun _ _ => trivial)
 generalize (W6.setCell ⟨g, 0, none⟩ (.int .i64 z)).setCell ⟨g, 1, none⟩ (.slice A6 l1.length c6) = W7 at *
 have hri : RI w0 ((W7.alloc (.cells #[.pointer (some ⟨g, 0, none⟩)] 71)).alloc (.cells #[.slice A7 l2.length c7] 22)) (fun _ _ => True) g (W7.heap.size + 1) W7.heap.size z l1 rs [] (.slice A6 l1.length c6) rv A7 c7 l2 := by
  refine ⟨(ha7.alloc _).alloc _, trivial, below_alloc (below_alloc hb7 _) _, ?_, blk_alloc (blk_new _ _) _, Kd.R_alloc (Kd.R_alloc fr7 _) _⟩
  have := blk_new (W7.alloc (.cells #[.pointer (some ⟨g, 0, none⟩)] 71)) (.cells #[.slice A7 l2.length c7] 22)
  rwa [World.size_alloc] at this
 have HCOL := Lib.hid (callsIn_wide.1 (collected_any w0 _ g (W7.heap.size + 1) W7.heap.size z l1 rs (.slice A6 l1.length c6) rv A7 c7 l2 fin hri hgo hL hnow))
 have hs7 := hri.lo.size
 clear ha7 hb7 fr7 hri m0 m1 g0 g1 y0 y1
 go_wp2_with fail
 refine (HCOL.out).mono ?_
 rintro e w9 ⟨v, sv9, rv9, rfl, hb9, ha9, hr9⟩
 obtain ⟨A9, c9, e9⟩ := Kd.R_slice hr9
 subst e9
 have ko := blk_below HO.out hb9
 have o0 : w9.cell? ⟨o, 0, none⟩ = some v0 := (blk_cell ko 0).trans rfl
 have o1 := blk_frozen ko 0
 have HB9 := Lib.hid hb9
 have HA9 := Lib.hid ha9
 have HR9 := Lib.hid (Kd.R_lower hr9 hs7)
 have HK := Lib.hid ko
 clear ko hb9 ha9 hr9
 go_wp2
 go_ret
 have hol := blk_lt HO.out
 refine ⟨rfl, (BB.of (S := fun k => k = o) HB9.out).set ⟨o, 0, none⟩ (.inr rfl) _, ⟨sv9, rv9, ⟨blk_far HA9.out.blk (by have := HA9.out.lo; show g ≠ o; omega) _, HA9.out.lo, ?_, ?_⟩⟩, _, blk_put HK.out 0 _ rfl, ?_⟩
 · exact Kd.R_mono (Kd.R_far (p := ⟨o, 0, none⟩) (Kd.R_types HA9.out.T HK.out (by decide)) (fun k hk => hk.2) _) (fun _ _ => trivial)
 · exact Kd.R_mono (Kd.R_far (p := ⟨o, 0, none⟩) (Kd.R_types HA9.out.A HK.out (by decide)) (fun k hk => hk.2) _) (fun _ _ => trivial)
 · exact Kd.R_mono (Kd.R_far (p := ⟨o, 0, none⟩) (Kd.R_types HR9.out HK.out (by decide)) (fun k hk => hk.2) _) (fun _ _ => trivial)
end Go.Proofs.Ytlddekjlmkimnaa.C
