import Derived.Test.YtlddekjlmkimnaaJ5
import Derived.Test.YtlddekjlmkimnaaJ26
namespace Go.Proofs.Ytlddekjlmkimnaa.C
open Go.RowKit Go.Proofs.YtlddekjlmkimnaaW.PrintWords Go.Proofs.YtlddekjlmkimnaaW.PrintLast Go.Proofs.YtlddekjlmkimnaaW.PrintMore
set_option linter.unusedVariables false
set_option linter.unusedSimpArgs false

/-- The captured variables: the alarm (block p), the time (block q). -/
structure Capt (w0 : World) (p q : Nat) (x : S47) (when' : Int) : Prop where
 hp : w0.heap[p]? = some (.cells #[.int .i64 x.f0, .int .i64 x.f1, .int .i64 x.f2] 47 (0, 0))
 hq : w0.heap[q]? = some (.cells #[.int .i64 when'] 2 (0, 0))
theorem Capt.cells {w0 : World} {p q : Nat} {x : S47} {when' : Int} (h : Capt w0 p q x when') (W : World) (hB : Below w0.heap.size w0 W) :
 W.cell? ⟨p, 0, none⟩ = some (.int .i64 x.f0) ∧ W.cell? ⟨p, 1, none⟩ = some (.int .i64 x.f1) ∧ W.cell? ⟨p, 2, none⟩ = some (.int .i64 x.f2) ∧ W.cell? ⟨q, 0, none⟩ = some (.int .i64 when') :=
 have h1 := blk_below h.hp hB
 have h2 := blk_below h.hq hB
 ⟨(blk_cell h1 0).trans rfl, (blk_cell h1 1).trans rfl, (blk_cell h1 2).trans rfl, (blk_cell h2 0).trans rfl⟩

set_option maxRecDepth 100000 in
set_option maxHeartbeats 4000000 in
theorem start1_no (w0 w : World) (g p q : Nat) (x : S47) (when' : Int) (hB : Below w0.heap.size w0 w) (hC : Capt w0 p q x when') (hal : vtimer_alarm.f x.f0 x.f1 x.f2 = some false) :
 Calls Try.prog 48 #[.pointer (some ⟨g, 0, none⟩), .pointer (some ⟨p, 0, none⟩), .pointer (some ⟨q, 0, none⟩)] w fun e w' => e = .returned (.int .i64 2) ∧ Below w0.heap.size w0 w' := by
 obtain ⟨c0, c1, c2, c3⟩ := hC.cells w hB
 have HC := Lib.hid hC
 have HB := Lib.hid hB
 have HAl := Lib.hid (fun W => vtimer_alarm.calls x.f0 x.f1 x.f2 false W hal)
 clear hC hB hal
 go_enter Try.func48, Try.ntmps48
 go_wp2_with fail
 refine st_ 12 (fun W => W.cell? ⟨p, 0, none⟩ = some (.int .i64 x.f0) ∧ W.cell? ⟨p, 1, none⟩ = some (.int .i64 x.f1) ∧ W.cell? ⟨p, 2, none⟩ = some (.int .i64 x.f2) ∧ W.cell? ⟨q, 0, none⟩ = some (.int .i64 when')) [] ⟨c0, c1, c2, c3⟩ (fun hHeld => ?_)
 refine tk_ 0 7 rfl rfl hHeld (by rintro w' ⟨s0, s1, s2, s3⟩; go_simp; with_reducible rfl) ?_
 refine ok1_ 1 8 rfl rfl (fun K hK => ?_)
 refine goes_ Try.func27 (by kernel_rfl) rfl #[.agg #[.int .i64 x.f0, .int .i64 x.f1, .int .i64 x.f2]] (by rfl) rfl rfl M_ ?_
 refine (HAl.out _).mono ?_
 rintro e w2 ⟨rfl, hb2⟩
 have HB2 := Lib.hid (below_step (below_drew HB.out) hb2)
 refine ⟨_, rfl, ?_⟩
 refine hK.out _ _ (HC.out.cells _ HB2.out) (fun hHeld => ?_)
 clear hK K
 refine nm_ 8 ?_
 refine pk_ 2 9 ?_
 refine pk_ 3 10 ?_
 refine ok_ 4 11 ?_
 refine ok_ 5 12 ?_
 refine ok_ 6 13 ?_
 refine ok_ 7 14 ?_
 refine ok_ 8 15 ?_
 refine ok_ 9 16 ?_
 refine ok_ 10 17 ?_
 refine pk_ 11 18 ?_
 refine done_ (by kernel_rfl) ?_
 go_wp2
 go_ret
 exact ⟨rfl, HB2.out⟩

set_option maxRecDepth 100000 in
set_option maxHeartbeats 4000000 in
theorem start1_bad (w0 w : World) (g p q : Nat) (now : Int) (ts : List S88) (rs : List S47) (sv rv : Value) (x : S47) (when' : Int) (hB : Below w0.heap.size w0 w) (hC : Capt w0 p q x when') (ha : AO w w0.heap.size g now ts rs sv rv) (hal : vtimer_alarm.f x.f0 x.f1 x.f2 = some true)
 (id : Int) (hid : vtimer_alarmed.f x.f0 = some id) (k : Nat) (z : Int) (az : List S88) (ez : Int) (h : wheel_Set.f k now ts id when' = some (z, az, ez)) (hz : ez ≠ 0) :
 Calls Try.prog 48 #[.pointer (some ⟨g, 0, none⟩), .pointer (some ⟨p, 0, none⟩), .pointer (some ⟨q, 0, none⟩)] w fun e w' => e = .returned (.int .i64 2) ∧ Below w0.heap.size w0 w' := by
 obtain ⟨c0, c1, c2, c3⟩ := hC.cells w hB
 have HC := Lib.hid hC
 have HB := Lib.hid hB
 have HA := Lib.hid ha
 have HAl := Lib.hid (fun W => vtimer_alarm.calls x.f0 x.f1 x.f2 true W hal)
 have HI := Lib.hid (fun W => vtimer_alarmed.calls x.f0 id W hid)
 have HS := Lib.hid (fun W sv rv hb hA => set_any w0 W g now ts rs sv rv hb hA id when' k z az ez h)
 have hz1 : (ez != 0) = true := by simpa using hz
 clear hC hB hal ha h hid hz
 go_enter Try.func48, Try.ntmps48
 go_wp2_with fail
 refine st_ 12 (fun W => W.cell? ⟨p, 0, none⟩ = some (.int .i64 x.f0) ∧ W.cell? ⟨p, 1, none⟩ = some (.int .i64 x.f1) ∧ W.cell? ⟨p, 2, none⟩ = some (.int .i64 x.f2) ∧ W.cell? ⟨q, 0, none⟩ = some (.int .i64 when')) [] ⟨c0, c1, c2, c3⟩ (fun hHeld => ?_)
 refine tk_ 0 7 rfl rfl hHeld (by rintro w' ⟨s0, s1, s2, s3⟩; go_simp; with_reducible rfl) ?_
 refine ok1_ 1 8 rfl rfl (fun K hK => ?_)
 refine goes_ Try.func27 (by kernel_rfl) rfl #[.agg #[.int .i64 x.f0, .int .i64 x.f1, .int .i64 x.f2]] (by rfl) rfl rfl M_ ?_
 refine (HAl.out _).mono ?_
 rintro e w2 ⟨rfl, hb2⟩
 have HB2 := Lib.hid (below_step (below_drew HB.out) hb2)
 refine ⟨_, rfl, ?_⟩
 refine hK.out _ _ (HC.out.cells _ HB2.out) (fun hHeld => ?_)
 clear hK K
 refine nm_ 8 ?_
 refine pk_ 2 9 ?_
 refine pk_ 3 10 ?_
 refine pk_ 4 11 ?_
 refine pk_ 5 12 ?_
 refine tk_ 6 13 rfl rfl hHeld (by rintro w' ⟨s0, s1, s2, s3⟩; go_simp; with_reducible rfl) ?_
 refine tk_ 8 15 rfl rfl hHeld (by rintro w' ⟨s0, s1, s2, s3⟩; go_simp; with_reducible rfl) ?_
 refine ok1_ 7 14 rfl rfl (fun K hK => ?_)
 refine goes_ Try.func31 (by kernel_rfl) rfl #[.int .i64 x.f0] (by rfl) rfl rfl M_ ?_
 refine (HI.out _).mono ?_
 rintro e w3 ⟨rfl, n3, rfl⟩
 refine ⟨_, rfl, ?_⟩
 refine hK.out _ _ (HC.out.cells _ (pw_below_drewN HB2.out _)) (fun hHeld => ?_)
 clear hK K
 refine nm_ 14 ?_
 refine ok1_ 9 16 rfl rfl (fun K hK => ?_)
 refine goes_ Try.func49 (by kernel_rfl) rfl #[.pointer (some ⟨g, 0, none⟩), .int .i64 id, .int .i64 when'] (by rfl) rfl rfl M_ ?_
 refine (HS.out _ sv rv (pw_below_drewN HB2.out _) ((HA.out.drew.below hb2).drewN _)).mono ?_
 rintro e w4 ⟨rfl, hb5, -⟩
 refine ⟨_, rfl, ?_⟩
 refine hK.out _ _ (HC.out.cells _ hb5) (fun hHeld => ?_)
 clear hK K
 refine nm_ 16 ?_
 refine pk_ 10 17 ?_
 refine pk_ 11 18 ?_
 refine done_ (by kernel_rfl) ?_
 go_wp2
 go_ret
 exact ⟨rfl, hb5⟩

set_option maxRecDepth 100000 in
set_option maxHeartbeats 4000000 in
theorem start1_there (w0 w : World) (g p q : Nat) (now : Int) (ts : List S88) (rs : List S47) (sv rv : Value) (x : S47) (when' : Int) (hB : Below w0.heap.size w0 w) (hC : Capt w0 p q x when') (ha : AO w w0.heap.size g now ts rs sv rv) (hal : vtimer_alarm.f x.f0 x.f1 x.f2 = some true)
 (id : Int) (hid : vtimer_alarmed.f x.f0 = some id) (k : Nat) (z : Int) (az : List S88) (A : Option Addr) (c : Nat) (hrv : rv = .slice A rs.length c) (h : wheel_Set.f k now ts id when' = some (z, az, 0)) (i : Nat) (hn : rs.length ≤ 999999) (hi : i < rs.length) (hat : vtimer_at.f rs x.f0 = some ((i : Int), true)) :
 Calls Try.prog 48 #[.pointer (some ⟨g, 0, none⟩), .pointer (some ⟨p, 0, none⟩), .pointer (some ⟨q, 0, none⟩)] w fun e w' => e = .returned (.int .i64 0) ∧ Below w0.heap.size w0 w' ∧ ∃ sv' rv', AO w' w0.heap.size g z az (putA rs i true x) sv' rv' := by
 obtain ⟨c0, c1, c2, c3⟩ := hC.cells w hB
 have HC := Lib.hid hC
 have HB := Lib.hid hB
 have HA := Lib.hid ha
 have HAl := Lib.hid (fun W => vtimer_alarm.calls x.f0 x.f1 x.f2 true W hal)
 have HI := Lib.hid (fun W => vtimer_alarmed.calls x.f0 id W hid)
 have HS := Lib.hid (fun W sv rv hb hA => set_any w0 W g now ts rs sv rv hb hA id when' k z az 0 h)
 have HAt := Lib.hid (fun W (hC : Kd.C k47 W A rs.length rs) => vtimer_at.calls A c rs x.f0 (i : Int) true W hC (by have := ha.A; rw [hrv] at this; exact (Kd.R_reads' this).2.1) hat)
 subst hrv
 clear hC hB hal ha h hid hat
 go_enter Try.func48, Try.ntmps48
 go_wp2_with fail
 refine st_ 12 (fun W => W.cell? ⟨p, 0, none⟩ = some (.int .i64 x.f0) ∧ W.cell? ⟨p, 1, none⟩ = some (.int .i64 x.f1) ∧ W.cell? ⟨p, 2, none⟩ = some (.int .i64 x.f2) ∧ W.cell? ⟨q, 0, none⟩ = some (.int .i64 when')) [] ⟨c0, c1, c2, c3⟩ (fun hHeld => ?_)
 refine tk_ 0 7 rfl rfl hHeld (by rintro w' ⟨s0, s1, s2, s3⟩; go_simp; with_reducible rfl) ?_
 refine ok1_ 1 8 rfl rfl (fun K hK => ?_)
 refine goes_ Try.func27 (by kernel_rfl) rfl #[.agg #[.int .i64 x.f0, .int .i64 x.f1, .int .i64 x.f2]] (by rfl) rfl rfl M_ ?_
 refine (HAl.out _).mono ?_
 rintro e w2 ⟨rfl, hb2⟩
 have HB2 := Lib.hid (below_step (below_drew HB.out) hb2)
 refine ⟨_, rfl, ?_⟩
 refine hK.out _ _ (HC.out.cells _ HB2.out) (fun hHeld => ?_)
 clear hK K
 refine nm_ 8 ?_
 refine pk_ 2 9 ?_
 refine pk_ 3 10 ?_
 refine pk_ 4 11 ?_
 refine pk_ 5 12 ?_
 refine tk_ 6 13 rfl rfl hHeld (by rintro w' ⟨s0, s1, s2, s3⟩; go_simp; with_reducible rfl) ?_
 refine tk_ 8 15 rfl rfl hHeld (by rintro w' ⟨s0, s1, s2, s3⟩; go_simp; with_reducible rfl) ?_
 refine ok1_ 7 14 rfl rfl (fun K hK => ?_)
 refine goes_ Try.func31 (by kernel_rfl) rfl #[.int .i64 x.f0] (by rfl) rfl rfl M_ ?_
 refine (HI.out _).mono ?_
 rintro e w3 ⟨rfl, n3, rfl⟩
 refine ⟨_, rfl, ?_⟩
 refine hK.out _ _ (HC.out.cells _ (pw_below_drewN HB2.out _)) (fun hHeld => ?_)
 clear hK K
 refine nm_ 14 ?_
 refine ok1_ 9 16 rfl rfl (fun K hK => ?_)
 refine goes_ Try.func49 (by kernel_rfl) rfl #[.pointer (some ⟨g, 0, none⟩), .int .i64 id, .int .i64 when'] (by rfl) rfl rfl M_ ?_
 refine (HS.out _ sv (.slice A rs.length c) (pw_below_drewN HB2.out _) ((HA.out.drew.below hb2).drewN _)).mono ?_
 rintro e w4 ⟨rfl, hb5, sv4, hA4⟩
 have HA4 := Lib.hid (show AO w4 w0.heap.size g z az rs sv4 (.slice A rs.length c) by simpa [sel] using hA4)
 refine ⟨_, rfl, ?_⟩
 refine hK.out _ _ (HC.out.cells _ hb5) (fun hHeld => ?_)
 clear hK K
 refine nm_ 16 ?_
 refine pk_ 10 17 ?_
 refine pk_ 11 18 ?_
 refine done_ (by kernel_rfl) ?_
 have HB5 := Lib.hid hb5
 have HCr := Lib.hid (Kd.R_reads' HA4.out.A).2.2
 have m2 : w4.cell? ⟨g, 2, none⟩ = some (.slice A rs.length c) := (blk_cell HA4.out.blk 2).trans rfl
 obtain ⟨e0, e1, e2, -⟩ := HC.out.cells w4 hb5
 clear c0 c1 c2 c3 hb5 hb2 hA4 HS HI HAl HA HB HB2
 go_wp2_with fail
 refine st_ 12 (fun W => W.cell? ⟨g, 2, none⟩ = some (.slice A rs.length c) ∧ W.cell? ⟨p, 0, none⟩ = some (.int .i64 x.f0) ∧ W.cell? ⟨p, 1, none⟩ = some (.int .i64 x.f1) ∧ W.cell? ⟨p, 2, none⟩ = some (.int .i64 x.f2)) [] ⟨m2, e0, e1, e2⟩ (fun hHeld => ?_)
 refine pk_ 0 20 ?_
 refine pk_ 1 21 ?_
 refine pk_ 2 22 ?_
 refine tk_ 3 23 rfl rfl hHeld (by rintro w' ⟨s0, s1, s2, s3⟩; go_simp; with_reducible rfl) ?_
 refine pk_ 4 24 ?_
 refine tk_ 5 25 rfl rfl hHeld (by rintro w' ⟨s0, s1, s2, s3⟩; go_simp; with_reducible rfl) ?_
 refine ok1_ 6 26 rfl rfl (fun K hK => ?_)
 refine goes_ Try.func29 (by kernel_rfl) rfl #[.slice A rs.length c, .int .i64 x.f0] (by rfl) rfl rfl M_ ?_
 refine (HAt.out _ (Kd.C_drew HCr.out)).mono ?_
 rintro e w6 ⟨rfl, hb6⟩
 have HA6 := Lib.hid (HA4.out.drew.below hb6)
 have HB6 := Lib.hid (below_step (below_drew HB5.out) hb6)
 refine ⟨_, rfl, ?_⟩
 refine hK.out _ _ ⟨(blk_cell HA6.out.blk 2).trans rfl, (HC.out.cells _ HB6.out).1, (HC.out.cells _ HB6.out).2.1, (HC.out.cells _ HB6.out).2.2.1⟩ (fun hHeld => ?_)
 clear hK K
 refine nm_ 26 ?_
 refine pk_ 7 19 ?_
 refine pk_ 8 27 ?_
 refine pk_ 9 28 ?_
 refine pk_ 10 5 ?_
 refine pk_ 11 6 ?_
 refine done_ (by kernel_rfl) ?_
 clear m2 e0 e1 e2 HAt HCr HA4 HB5
 have m2 : w6.cell? ⟨g, 2, none⟩ = some (.slice A rs.length c) := (blk_cell HA6.out.blk 2).trans rfl
 obtain ⟨e0, e1, e2, -⟩ := HC.out.cells w6 HB6.out
 obtain ⟨b, c', cells, hv, hlo, hlt, hbk⟩ : ∃ b c' cells, (Value.slice A rs.length c) = .slice (some ⟨b, 0, none⟩) rs.length c' ∧ w0.heap.size ≤ b ∧ b < w6.heap.size ∧ w6.heap[b]? = some (.cells cells 47 (0, 0)) := by
  obtain ⟨b, c', h1, h2, h3, cells, h4⟩ := Kd.R_form HA6.out.A (by omega)
  exact ⟨b, c', cells, h1, h2, h3, h4⟩
 injection hv with hv1 hv2 hv3
 subst hv1
 subst hv3
 obtain ⟨ce, hcl, hM, hcc, hfr⟩ := Kd.R_elem HA6.out.A z47 (i : Int) (by omega) (by omega)
 obtain rfl := k47_openM hM
 have x0 : w6.cell? ⟨b, i * 3, none⟩ = some _ := hcc 0 _ rfl
 have x1 : w6.cell? ⟨b, i * 3 + 1, none⟩ = some _ := hcc 1 _ rfl
 have x2 : w6.cell? ⟨b, i * 3 + 2, none⟩ = some _ := hcc 2 _ rfl
 have y0 : w6.frozen? ⟨b, i * 3, none⟩ = false := hfr 0
 have y1 : w6.frozen? ⟨b, i * 3 + 1, none⟩ = false := hfr 1
 have y2 : w6.frozen? ⟨b, i * 3 + 2, none⟩ = false := hfr 2
 clear hcl hM hcc hfr hv2
 have hgb : g ≠ b := fun e => by have := HA6.out.blk; rw [e, hbk] at this; simp at this
 have hbg : b ≠ g := Ne.symm hgb
 have hp0 := blk_lt HC.out.hp
 have hpb : p ≠ b := by omega
 have hbp : b ≠ p := by omega
 have hi0 : (0 : Int) ≤ (i : Int) := by omega
 have hi1 : (i : Int) < (rs.length : Int) := by omega
 go_wp2_with fail
 go_region_held3 (fun W => W.cell? ⟨g, 2, none⟩ = some (.slice (some ⟨b, 0, none⟩) rs.length c) ∧ W.cell? ⟨p, 0, none⟩ = some (.int .i64 x.f0) ∧ W.cell? ⟨p, 1, none⟩ = some (.int .i64 x.f1) ∧ W.cell? ⟨p, 2, none⟩ = some (.int .i64 x.f2)) (go_keep) (fail)
 go_wp2
 go_ret
 have hX := HA6.out.elem i hi x
 refine ⟨rfl, below_set (below_set (below_set (below_drew HB6.out) hlo) hlo) hlo, sv4, .slice (some ⟨b, 0, none⟩) rs.length c, ?_⟩
 simpa [putA] using hX.2.drew

set_option maxRecDepth 100000 in
set_option maxHeartbeats 4000000 in
theorem start1_new (w0 w : World) (g p q : Nat) (now : Int) (ts : List S88) (rs : List S47) (sv rv : Value) (x : S47) (when' : Int) (hB : Below w0.heap.size w0 w) (hC : Capt w0 p q x when') (ha : AO w w0.heap.size g now ts rs sv rv) (hal : vtimer_alarm.f x.f0 x.f1 x.f2 = some true)
 (id : Int) (hid : vtimer_alarmed.f x.f0 = some id) (k : Nat) (z : Int) (az : List S88) (A : Option Addr) (c : Nat) (hrv : rv = .slice A rs.length c) (h : wheel_Set.f k now ts id when' = some (z, az, 0)) (i : Nat) (hn : rs.length ≤ 999999) (hi : i ≤ rs.length) (hat : vtimer_at.f rs x.f0 = some ((i : Int), false)) :
 Calls Try.prog 48 #[.pointer (some ⟨g, 0, none⟩), .pointer (some ⟨p, 0, none⟩), .pointer (some ⟨q, 0, none⟩)] w fun e w' => e = .returned (.int .i64 0) ∧ Below w0.heap.size w0 w' ∧ ∃ sv' rv', AO w' w0.heap.size g z az (putA rs i false x) sv' rv' := by
 obtain ⟨c0, c1, c2, c3⟩ := hC.cells w hB
 have HC := Lib.hid hC
 have HB := Lib.hid hB
 have HA := Lib.hid ha
 have HAl := Lib.hid (fun W => vtimer_alarm.calls x.f0 x.f1 x.f2 true W hal)
 have HI := Lib.hid (fun W => vtimer_alarmed.calls x.f0 id W hid)
 have HS := Lib.hid (fun W sv rv hb hA => set_any w0 W g now ts rs sv rv hb hA id when' k z az 0 h)
 have HAt := Lib.hid (fun W (hC : Kd.C k47 W A rs.length rs) => vtimer_at.calls A c rs x.f0 (i : Int) false W hC (by have := ha.A; rw [hrv] at this; exact (Kd.R_reads' this).2.1) hat)
 subst hrv
 clear hC hB hal ha h hid hat
 go_enter Try.func48, Try.ntmps48
 go_wp2_with fail
 refine st_ 12 (fun W => W.cell? ⟨p, 0, none⟩ = some (.int .i64 x.f0) ∧ W.cell? ⟨p, 1, none⟩ = some (.int .i64 x.f1) ∧ W.cell? ⟨p, 2, none⟩ = some (.int .i64 x.f2) ∧ W.cell? ⟨q, 0, none⟩ = some (.int .i64 when')) [] ⟨c0, c1, c2, c3⟩ (fun hHeld => ?_)
 refine tk_ 0 7 rfl rfl hHeld (by rintro w' ⟨s0, s1, s2, s3⟩; go_simp; with_reducible rfl) ?_
 refine ok1_ 1 8 rfl rfl (fun K hK => ?_)
 refine goes_ Try.func27 (by kernel_rfl) rfl #[.agg #[.int .i64 x.f0, .int .i64 x.f1, .int .i64 x.f2]] (by rfl) rfl rfl M_ ?_
 refine (HAl.out _).mono ?_
 rintro e w2 ⟨rfl, hb2⟩
 have HB2 := Lib.hid (below_step (below_drew HB.out) hb2)
 refine ⟨_, rfl, ?_⟩
 refine hK.out _ _ (HC.out.cells _ HB2.out) (fun hHeld => ?_)
 clear hK K
 refine nm_ 8 ?_
 refine pk_ 2 9 ?_
 refine pk_ 3 10 ?_
 refine pk_ 4 11 ?_
 refine pk_ 5 12 ?_
 refine tk_ 6 13 rfl rfl hHeld (by rintro w' ⟨s0, s1, s2, s3⟩; go_simp; with_reducible rfl) ?_
 refine tk_ 8 15 rfl rfl hHeld (by rintro w' ⟨s0, s1, s2, s3⟩; go_simp; with_reducible rfl) ?_
 refine ok1_ 7 14 rfl rfl (fun K hK => ?_)
 refine goes_ Try.func31 (by kernel_rfl) rfl #[.int .i64 x.f0] (by rfl) rfl rfl M_ ?_
 refine (HI.out _).mono ?_
 rintro e w3 ⟨rfl, n3, rfl⟩
 refine ⟨_, rfl, ?_⟩
 refine hK.out _ _ (HC.out.cells _ (pw_below_drewN HB2.out _)) (fun hHeld => ?_)
 clear hK K
 refine nm_ 14 ?_
 refine ok1_ 9 16 rfl rfl (fun K hK => ?_)
 refine goes_ Try.func49 (by kernel_rfl) rfl #[.pointer (some ⟨g, 0, none⟩), .int .i64 id, .int .i64 when'] (by rfl) rfl rfl M_ ?_
 refine (HS.out _ sv (.slice A rs.length c) (pw_below_drewN HB2.out _) ((HA.out.drew.below hb2).drewN _)).mono ?_
 rintro e w4 ⟨rfl, hb5, sv4, hA4⟩
 have HA4 := Lib.hid (show AO w4 w0.heap.size g z az rs sv4 (.slice A rs.length c) by simpa [sel] using hA4)
 refine ⟨_, rfl, ?_⟩
 refine hK.out _ _ (HC.out.cells _ hb5) (fun hHeld => ?_)
 clear hK K
 refine nm_ 16 ?_
 refine pk_ 10 17 ?_
 refine pk_ 11 18 ?_
 refine done_ (by kernel_rfl) ?_
 have HB5 := Lib.hid hb5
 have HCr := Lib.hid (Kd.R_reads' HA4.out.A).2.2
 have m2 : w4.cell? ⟨g, 2, none⟩ = some (.slice A rs.length c) := (blk_cell HA4.out.blk 2).trans rfl
 obtain ⟨e0, e1, e2, -⟩ := HC.out.cells w4 hb5
 clear c0 c1 c2 c3 hb5 hb2 hA4 HS HI HAl HA HB HB2
 go_wp2_with fail
 refine st_ 12 (fun W => W.cell? ⟨g, 2, none⟩ = some (.slice A rs.length c) ∧ W.cell? ⟨p, 0, none⟩ = some (.int .i64 x.f0) ∧ W.cell? ⟨p, 1, none⟩ = some (.int .i64 x.f1) ∧ W.cell? ⟨p, 2, none⟩ = some (.int .i64 x.f2)) [] ⟨m2, e0, e1, e2⟩ (fun hHeld => ?_)
 refine pk_ 0 20 ?_
 refine pk_ 1 21 ?_
 refine pk_ 2 22 ?_
 refine tk_ 3 23 rfl rfl hHeld (by rintro w' ⟨s0, s1, s2, s3⟩; go_simp; with_reducible rfl) ?_
 refine pk_ 4 24 ?_
 refine tk_ 5 25 rfl rfl hHeld (by rintro w' ⟨s0, s1, s2, s3⟩; go_simp; with_reducible rfl) ?_
 refine ok1_ 6 26 rfl rfl (fun K hK => ?_)
 refine goes_ Try.func29 (by kernel_rfl) rfl #[.slice A rs.length c, .int .i64 x.f0] (by rfl) rfl rfl M_ ?_
 refine (HAt.out _ (Kd.C_drew HCr.out)).mono ?_
 rintro e w6 ⟨rfl, hb6⟩
 have HA6 := Lib.hid (HA4.out.drew.below hb6)
 have HB6 := Lib.hid (below_step (below_drew HB5.out) hb6)
 refine ⟨_, rfl, ?_⟩
 refine hK.out _ _ ⟨(blk_cell HA6.out.blk 2).trans rfl, (HC.out.cells _ HB6.out).1, (HC.out.cells _ HB6.out).2.1, (HC.out.cells _ HB6.out).2.2.1⟩ (fun hHeld => ?_)
 clear hK K
 refine nm_ 26 ?_
 refine pk_ 7 19 ?_
 refine pk_ 8 27 ?_
 refine pk_ 9 28 ?_
 refine pk_ 10 5 ?_
 refine pk_ 11 6 ?_
 refine done_ (by kernel_rfl) ?_
 clear m2 e0 e1 e2 HAt HCr HA4 HB5
 have m2 : w6.cell? ⟨g, 2, none⟩ = some (.slice A rs.length c) := (blk_cell HA6.out.blk 2).trans rfl
 obtain ⟨e0, e1, e2, -⟩ := HC.out.cells w6 HB6.out
 go_wp2_with fail
 refine st_ 12 (fun W => W.cell? ⟨g, 2, none⟩ = some (.slice A rs.length c) ∧ W.cell? ⟨p, 0, none⟩ = some (.int .i64 x.f0) ∧ W.cell? ⟨p, 1, none⟩ = some (.int .i64 x.f1) ∧ W.cell? ⟨p, 2, none⟩ = some (.int .i64 x.f2)) [11] ⟨m2, e0, e1, e2⟩ (fun hHeld => ?_)
 refine pk_ 0 31 ?_
 refine pk_ 1 32 ?_
 refine pk_ 2 33 ?_
 refine pk_ 3 34 ?_
 refine tk_ 4 35 rfl rfl hHeld (by rintro w' ⟨s0, s1, s2, s3⟩; go_simp; with_reducible rfl) ?_
 refine pk_ 5 36 ?_
 refine tk_ 6 37 rfl rfl hHeld (by rintro w' ⟨s0, s1, s2, s3⟩; go_simp; with_reducible rfl) ?_
 refine ok1_ 7 38 rfl rfl (fun K hK => ?_)
 refine value_ (v := .slice (some ⟨w6.heap.size, 0, none⟩) 1 1) (w1 := (w6.alloc (.cells #[.int .i64 x.f0, .int .i64 x.f1, .int .i64 x.f2] 47)).drew) (by rfl) rfl (by go_simp; try rfl) ?_
 have HB8 := Lib.hid (below_drew (below_alloc HB6.out (.cells #[.int .i64 x.f0, .int .i64 x.f1, .int .i64 x.f2] 47)))
 refine hK.out _ _ ⟨(blk_cell (HA6.out.alloc _).drew.blk 2).trans rfl, (HC.out.cells _ HB8.out).1, (HC.out.cells _ HB8.out).2.1, (HC.out.cells _ HB8.out).2.2.1⟩ (fun hHeld => ?_)
 clear hK K
 refine nm_ 38 ?_
 refine ok1_ 8 39 rfl rfl (fun K hK => ?_)
 refine goes_ Try.func50 (by kernel_rfl) rfl #[.slice A rs.length c, .int .i64 i, .slice (some ⟨w6.heap.size, 0, none⟩) 1 1] (by rfl) rfl rfl M_ ?_
 refine (insert_any w0 _ g z az rs sv4 (.slice A rs.length c) (.slice (some ⟨w6.heap.size, 0, none⟩) 1 1) x HB8.out (HA6.out.alloc _).drew (Kd.R_drew (litA w6 _ HB6.out.size x)) (fun k hk he => by have := (Kd.R_lt HA6.out.A) k hk.symm; simp [Value.ownBlock] at he; omega) i hi (by omega)).mono ?_
 rintro e w7 ⟨v7, rfl, hb7, hg7, hT7, hR7, -⟩
 obtain ⟨A7, c7, e7⟩ := Kd.R_slice hR7
 subst e7
 have HB7 := Lib.hid hb7
 have HG7 := Lib.hid hg7
 refine ⟨_, rfl, ?_⟩
 refine hK.out _ _ ⟨(blk_cell HG7.out 2).trans rfl, (HC.out.cells _ HB7.out).1, (HC.out.cells _ HB7.out).2.1, (HC.out.cells _ HB7.out).2.2.1⟩ (fun hHeld => ?_)
 clear hK K
 refine nm_ 39 ?_
 refine pk_ 9 40 ?_
 refine pk_ 10 41 ?_
 refine last_ (i := 11) (N := none) #[true, true, true, true, true, true, true, true, true, true, true, true] rfl rfl (by kernel_rfl) (by decide) (fun K hK => ?_)
 have m7 : w7.cell? ⟨g, 2, none⟩ = some (.slice A rs.length c) := (blk_cell HG7.out 2).trans rfl
 have fz7 : w7.frozen? ⟨g, 2, none⟩ = false := blk_frozen HG7.out 2
 refine skip_ (w1 := w7.setCell ⟨g, 2, none⟩ (.slice A7 (rs.take i ++ x :: rs.drop i).length c7)) (by rfl) rfl (by go_simp; try rfl) ?_
 refine hK.out _ _ ?_
 clear hK K
 refine done_ (by kernel_rfl) ?_
 obtain ⟨rs2, hrs2⟩ : ∃ rs2, rs.take i ++ x :: rs.drop i = rs2 := ⟨_, rfl⟩
 have hX := AO.rows HG7.out HA6.out.lo hT7 _ _ hR7
 have hY : Below w0.heap.size w0 (w7.setCell ⟨g, 2, none⟩ (.slice A7 (rs.take i ++ x :: rs.drop i).length c7)) := below_set HB7.out HA6.out.lo
 have hset : (rs.take i ++ x :: rs.drop i).set i x = rs.take i ++ x :: rs.drop i := by
  have hl : (rs.take i).length = i := by rw [List.length_take]; omega
  rw [List.set_append_right _ _ (by omega), hl]; simp
 have hlen : i < (rs.take i ++ x :: rs.drop i).length := by simp; omega
 have HL := Lib.hid hrs2
 rw [hrs2] at hX hY hset hlen ⊢
 generalize w7.setCell ⟨g, 2, none⟩ (.slice A7 rs2.length c7) = w8 at hX hY ⊢
 have HA8 := Lib.hid hX
 have HB9 := Lib.hid hY
 have HSET := Lib.hid hset
 obtain ⟨e0, e1, e2, -⟩ := HC.out.cells w8 hY
 have m2 : w8.cell? ⟨g, 2, none⟩ = some (.slice A7 rs2.length c7) := (blk_cell hX.blk 2).trans rfl
 clear hX hY hset hT7 hR7 hb7 hg7 m7 fz7 HB7 HG7 HA6 HB6 HB8 hrs2 hHeld
 obtain ⟨b, c', cells, hv, hlo, hlt, hbk⟩ : ∃ b c' cells, (Value.slice A7 rs2.length c7) = .slice (some ⟨b, 0, none⟩) rs2.length c' ∧ w0.heap.size ≤ b ∧ b < w8.heap.size ∧ w8.heap[b]? = some (.cells cells 47 (0, 0)) := by
  obtain ⟨b, c', h1, h2, h3, cells, h4⟩ := Kd.R_form HA8.out.A (by omega)
  exact ⟨b, c', cells, h1, h2, h3, h4⟩
 injection hv with hv1 hv2 hv3
 subst hv1
 subst hv3
 obtain ⟨ce, hcl, hM, hcc, hfr⟩ := Kd.R_elem HA8.out.A z47 (i : Int) (by omega) (by omega)
 obtain rfl := k47_openM hM
 have x0 : w8.cell? ⟨b, i * 3, none⟩ = some _ := hcc 0 _ rfl
 have x1 : w8.cell? ⟨b, i * 3 + 1, none⟩ = some _ := hcc 1 _ rfl
 have x2 : w8.cell? ⟨b, i * 3 + 2, none⟩ = some _ := hcc 2 _ rfl
 have y0 : w8.frozen? ⟨b, i * 3, none⟩ = false := hfr 0
 have y1 : w8.frozen? ⟨b, i * 3 + 1, none⟩ = false := hfr 1
 have y2 : w8.frozen? ⟨b, i * 3 + 2, none⟩ = false := hfr 2
 clear hcl hM hcc hfr hv2
 have hgb : g ≠ b := fun e => by have := HA8.out.blk; rw [e, hbk] at this; simp at this
 have hbg : b ≠ g := Ne.symm hgb
 have hp0 := blk_lt HC.out.hp
 have hpb : p ≠ b := by omega
 have hbp : b ≠ p := by omega
 have hi0 : (0 : Int) ≤ (i : Int) := by omega
 have hi1 : (i : Int) < (rs2.length : Int) := by omega
 go_wp2_with fail
 go_region_held3 (fun W => W.cell? ⟨g, 2, none⟩ = some (.slice (some ⟨b, 0, none⟩) rs2.length c7) ∧ W.cell? ⟨p, 0, none⟩ = some (.int .i64 x.f0) ∧ W.cell? ⟨p, 1, none⟩ = some (.int .i64 x.f1) ∧ W.cell? ⟨p, 2, none⟩ = some (.int .i64 x.f2)) (go_keep) (fail)
 go_wp2
 go_ret
 have hX := HA8.out.elem i hlen x
 refine ⟨rfl, below_set (below_set (below_set (below_drew HB9.out) hlo) hlo) hlo, sv4, .slice (some ⟨b, 0, none⟩) rs2.length c7, ?_⟩
 have hZ := hX.2.drew
 rw [HSET.out] at hZ
 have e : putA rs i false x = rs2 := by rw [← HL.out]; simp [putA]
 rw [e]
 simpa using hZ

end Go.Proofs.Ytlddekjlmkimnaa.C
