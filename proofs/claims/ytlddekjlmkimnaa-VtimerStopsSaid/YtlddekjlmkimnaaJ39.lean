import Derived.Test.YtlddekjlmkimnaaJ38
import Derived.Test.YtlddekjlmkimnaaHpass
import Derived.Test.YtlddekjlmkimnaaJ5
import Derived.Test.YtlddekjlmkimnaaHstart2
import Derived.Test.YtlddekjlmkimnaaJ24
import Derived.Test.YtlddekjlmkimnaaJ26
import Derived.Test.YtlddekjlmkimnaaC17
section
namespace Go.Proofs.Ytlddekjlmkimnaa.C
open Go.RowKit Go.Sort Go.Proofs.YtlddekjlmkimnaaW.PrintWords Go.Proofs.YtlddekjlmkimnaaW.PrintLast Go.Proofs.YtlddekjlmkimnaaW.PrintMore
set_option linter.unusedVariables false
set_option linter.unusedSimpArgs false

/-! ### What rings when timers have fired -/
theorem again_f (a b c d e : Int) : ∃ r, vtimer_again.f a b c d e = some r := by
  unfold vtimer_again.f; split <;> exact ⟨_, rfl⟩
theorem setF_len {now : Int} {ts : List S88} {id v : Int} : (setF now ts id v).2.1.length ≤ ts.length + 1 := by
  unfold setF
  split
  · split
    · unfold withT
      simp only
      split
      · rw [List.length_set]; omega
      · rw [List.length_append, List.length_cons, List.length_take, List.length_drop]; omega
    · simp
  · simp
/-- One timer that has fired: it rings; the rows lose no other's. -/
theorem ringF_some (now : Int) (ts : List S88) (rs : List S47) (t : S88) (h1 : ts.length ≤ 800000) (h2 : rs.length ≤ 800000) (h3 : 0 ≤ t.f0) (h4 : t.f0 < 32) (hr : RowsA rs) (hx : t.f0 < 16 → ∃ x ∈ rs, x.f0 = t.f0 + 1) :
    ∃ ts' rs' r, ringF now ts rs t = some (ts', rs', r) ∧ ts'.length ≤ ts.length + 1 ∧ rs'.length ≤ rs.length ∧ RowsA rs' ∧ (∀ x ∈ rs, x.f0 ≠ t.f0 + 1 → x ∈ rs') ∧ r.f0 = t.f0 % 16 + 1 ∧ (16 ≤ t.f0 → r.f1 = 0) := by
  unfold ringF
  rw [if_pos ⟨by omega, by omega, h3, h4⟩]
  by_cases c : t.f0 < 16
  · rw [if_pos c]
    have ht : thereA rs (t.f0 % 16 + 1) = true := (thereA_iff hr _ (by omega) (by omega)).2 (by obtain ⟨x, hx, e⟩ := hx c; exact ⟨x, hx, by omega⟩)
    obtain ⟨hb, e⟩ := thereA_bs hr (by omega) (by omega) ht
    have hg : rs.getD (bsA rs (t.f0 % 16 + 1)) z47 = rs[bsA rs (t.f0 % 16 + 1)] := by simp [List.getD_eq_getElem?_getD, hb]
    rw [if_pos hb, hg]
    obtain ⟨a, ha⟩ := again_f rs[bsA rs (t.f0 % 16 + 1)].f0 rs[bsA rs (t.f0 % 16 + 1)].f1 rs[bsA rs (t.f0 % 16 + 1)].f2 t.f1 now
    rw [ha]
    simp only [Option.bind_some]
    have hdrop : ∀ x ∈ rs, x.f0 ≠ t.f0 + 1 → x ∈ rs.filter (fun y => !(y.f0 == rs[bsA rs (t.f0 % 16 + 1)].f0)) := fun x hx hne => (filter_memA _ x).2 ⟨hx, by rw [e]; omega⟩
    by_cases c2 : a.2.2 = true
    · rw [if_pos c2]
      by_cases c3 : (setF now ts t.f0 a.2.1).2.2 = 0
      · rw [if_pos c3]
        exact ⟨_, _, _, rfl, setF_len, Nat.le_refl _, hr, fun x hx _ => hx, rfl, fun h => by omega⟩
      · rw [if_neg c3]
        exact ⟨_, _, _, rfl, by omega, List.length_filter_le _ _, filter_rows hr _, hdrop, rfl, fun h => by omega⟩
    · rw [if_neg c2]
      exact ⟨_, _, _, rfl, by omega, List.length_filter_le _ _, filter_rows hr _, hdrop, rfl, fun h => by omega⟩
  · rw [if_neg c]
    exact ⟨_, _, _, rfl, by omega, Nat.le_refl _, hr, fun x hx _ => hx, rfl, fun _ => rfl⟩
theorem rings_some (now : Int) : ∀ (L : List S88) (ts : List S88) (rs : List S47) (acc : List S44), ts.length + L.length ≤ 800000 → rs.length ≤ 800000 → RowsA rs → (∀ t ∈ L, 0 ≤ t.f0 ∧ t.f0 < 32) → L.Pairwise (fun a b => a.f0 ≠ b.f0) →
    (∀ t ∈ L, t.f0 < 16 → ∃ x ∈ rs, x.f0 = t.f0 + 1) →
    ∃ r, ringsGo now ts rs acc L = some r ∧ r.2.2.length = acc.length + L.length ∧ ∀ q ∈ r.2.2, q ∈ acc ∨ ∃ t ∈ L, q.f0 = t.f0 % 16 + 1 ∧ (16 ≤ t.f0 → q.f1 = 0)
  | [], ts, rs, acc, _, _, _, _, _, _ => ⟨(ts, rs, acc), rfl, by simp, fun q hq => Or.inl hq⟩
  | t :: L, ts, rs, acc, h1, h2, hr, hid, hp, hx => by
    have hp' := List.pairwise_cons.1 hp
    have ht := hid t List.mem_cons_self
    rw [List.length_cons] at h1
    obtain ⟨ts', rs', r, e, l1, l2, hr', hk, hq0, hq1⟩ := ringF_some now ts rs t (by omega) h2 ht.1 ht.2 hr (hx t List.mem_cons_self)
    obtain ⟨r2, e2, hl, hm⟩ := rings_some now L ts' rs' (acc ++ [r]) (by omega) (by omega) hr' (fun u hu => hid u (List.mem_cons_of_mem _ hu)) hp'.2 (fun u hu hu16 => by
      obtain ⟨x, hx1, hx2⟩ := hx u (List.mem_cons_of_mem _ hu) hu16
      refine ⟨x, hk x hx1 ?_, hx2⟩
      have := hp'.1 u hu
      omega)
    refine ⟨r2, ?_, ?_, fun q hq => ?_⟩
    · simp only [ringsGo, e, Option.bind_some]; exact e2
    · rw [hl]; simp; omega
    · rcases hm q hq with h | ⟨u, hu, h5⟩
      · rcases List.mem_append.1 h with h | h
        · exact Or.inl h
        · obtain rfl : q = r := by simpa using h
          exact Or.inr ⟨t, List.mem_cons_self, hq0, hq1⟩
      · exact Or.inr ⟨u, List.mem_cons_of_mem _ hu, h5⟩
/-- Pass of alarms that may be, to a time that may be. -/
theorem passV_some {now : Int} {ts : List S88} {rs : List S47} (hok : okAl now ts rs = true) (to' : Int) (h0 : now ≤ to') (h1 : to' ≤ 1125899906842624) :
    ∃ ts' rs' l, passV now ts rs to' = some (to', ts', rs', l, 0) ∧ l.length ≤ 32 ∧ ∀ q ∈ l, ∃ t ∈ ts, q.f0 = t.f0 % 16 + 1 ∧ (16 ≤ t.f0 → q.f1 = 0) := by
  obtain ⟨hr, hw, ha⟩ := okAl_iff.1 hok
  have hl := okW_len hw
  have hl2 := rowsA_len16 hr
  have hrise := okW_rise hw
  have hperm : (sortT (ts.filter (fun x => decide (x.f1 ≤ to')))).Perm (ts.filter (fun x => decide (x.f1 ≤ to'))) := List.mergeSort_perm _ _
  have hsub : ∀ t ∈ sortT (ts.filter (fun x => decide (x.f1 ≤ to'))), t ∈ ts := fun t ht => (List.mem_filter.1 (hperm.mem_iff.1 ht)).1
  have hle : (sortT (ts.filter (fun x => decide (x.f1 ≤ to')))).length ≤ 32 := by
    rw [hperm.length_eq]
    exact Nat.le_trans (List.length_filter_le _ _) hl
  have hpf : passF now ts to' = (to', ts.filter (fun x => decide (to' < x.f1)), sortT (ts.filter (fun x => decide (x.f1 ≤ to'))), 0) := by
    unfold passF passOk
    rw [if_pos hw, if_neg (by omega)]
  have hpw : (sortT (ts.filter (fun x => decide (x.f1 ≤ to')))).Pairwise (fun a b => a.f0 ≠ b.f0) := by
    refine (hperm.pairwise_iff (fun h h2 => h h2.symm)).2 ?_
    exact (List.Pairwise.imp (fun h => Int.ne_of_lt h) (hrise.sublist List.filter_sublist))
  have hfl : (ts.filter (fun x => decide (to' < x.f1))).length ≤ ts.length := List.length_filter_le _ _
  obtain ⟨r, e, hrl, hm⟩ := rings_some to' (sortT (ts.filter (fun x => decide (x.f1 ≤ to')))) (ts.filter (fun x => decide (to' < x.f1))) rs [] (by omega) (by omega) hr
    (fun t ht => by have := okW_mem hw (hsub t ht); omega) hpw (fun t ht h16 => by
      have hb := okW_mem hw (hsub t ht)
      have hat := atR_mem hrise (hsub t ht)
      have h0' := (okW_now hw).1
      obtain ⟨x, hx, e⟩ := (ha (t.f0 + 1) (by omega) (by omega)).1 (by rw [show t.f0 + 1 - 1 = t.f0 by omega, hat]; omega)
      exact ⟨x, hx, e⟩)
  refine ⟨r.1, r.2.1, r.2.2, ?_, ?_, fun q hq => ?_⟩
  · unfold passV
    rw [if_pos hok, hpf]
    simp only [if_true, e, Option.map_some]
  · rw [hrl]; simpa using hle
  · rcases hm q hq with h | ⟨t, ht, h5⟩
    · cases h
    · exact ⟨t, hsub t ht, h5⟩
end Go.Proofs.Ytlddekjlmkimnaa.C
end
section
namespace Go.Proofs.Ytlddekjlmkimnaa.C
open Go.RowKit Go.Proofs.YtlddekjlmkimnaaW.PrintWords Go.Proofs.YtlddekjlmkimnaaW.PrintLast Go.Proofs.YtlddekjlmkimnaaW.PrintMore
set_option linter.unusedVariables false
set_option linter.unusedSimpArgs false

set_option maxRecDepth 100000 in
set_option maxHeartbeats 4000000 in
/-- Sleep$1: the captured variables are the number (block p) and the time (block q). -/
theorem sleep1 (w0 w : World) (g p q : Nat) (now : Int) (ts : List S88) (rs : List S47) (sv rv : Value) (hB : Below w0.heap.size w0 w) (ha : AO w w0.heap.size g now ts rs sv rv) (own id when' : Int)
    (hC : ∀ W, Below w0.heap.size w0 W → W.cell? ⟨p, 0, none⟩ = some (.int .i64 own) ∧ W.cell? ⟨q, 0, none⟩ = some (.int .i64 when')) (hid : vtimer_asleep.f own = some id) (k : Nat) (z : Int) (az : List S88) (ez : Int) (h : wheel_Set.f k now ts id when' = some (z, az, ez)) :
    Calls Try.prog 54 #[.pointer (some ⟨g, 0, none⟩), .pointer (some ⟨p, 0, none⟩), .pointer (some ⟨q, 0, none⟩)] w fun e w' => e = .returned (.int .i64 ez) ∧ Below w0.heap.size w0 w' ∧
      ∃ sv', AO w' w0.heap.size g (sel ez z now) (sel ez az ts) rs sv' rv := by
  obtain ⟨c0, c1⟩ := hC w hB
  have HC := Lib.hid hC
  have HB := Lib.hid hB
  have HA := Lib.hid ha
  have HI := Lib.hid (fun W => vtimer_asleep.calls own id W hid)
  have HS := Lib.hid (fun W sv rv hb hA => set_any w0 W g now ts rs sv rv hb hA id when' k z az ez h)
  clear hC hB ha h hid
  go_enter Try.func54, Try.ntmps54
  go_wp2_with fail
  refine st_ 6 (fun W => W.cell? ⟨p, 0, none⟩ = some (.int .i64 own) ∧ W.cell? ⟨q, 0, none⟩ = some (.int .i64 when')) [] ⟨c0, c1⟩ (fun hHeld => ?_)
  refine pk_ 0 5 ?_
  refine tk_ 1 6 rfl rfl hHeld (by rintro w' ⟨s0, s1⟩; go_simp; with_reducible rfl) ?_
  refine tk_ 3 8 rfl rfl hHeld (by rintro w' ⟨s0, s1⟩; go_simp; with_reducible rfl) ?_
  refine ok1_ 2 7 rfl rfl (fun K hK => ?_)
  refine goes_ Try.func41 (by kernel_rfl) rfl #[.int .i64 own] (by rfl) rfl rfl M_ ?_
  refine (HI.out _).mono ?_
  rintro e w3 ⟨rfl, n3, rfl⟩
  refine ⟨_, rfl, ?_⟩
  refine hK.out _ _ (HC.out _ (pw_below_drewN (below_drew HB.out) _)) (fun hHeld => ?_)
  clear hK K
  refine nm_ 7 ?_
  refine ok1_ 4 9 rfl rfl (fun K hK => ?_)
  refine goes_ Try.func49 (by kernel_rfl) rfl #[.pointer (some ⟨g, 0, none⟩), .int .i64 id, .int .i64 when'] (by rfl) rfl rfl M_ ?_
  refine (HS.out _ sv rv (pw_below_drewN (below_drew HB.out) _) ((HA.out.drew).drewN _)).mono ?_
  rintro e w4 ⟨rfl, hb4, sv4, hx⟩
  have HB4 := Lib.hid hb4
  have HX := Lib.hid hx
  clear hb4 hx
  refine ⟨_, rfl, ?_⟩
  refine hK.out _ _ (HC.out _ HB4.out) (fun hHeld => ?_)
  clear hK K
  refine nm_ 9 ?_
  refine pk_ 5 4 ?_
  refine done_ (by kernel_rfl) ?_
  go_wp2
  go_ret
  exact ⟨rfl, HB4.out, sv4, HX.out⟩
end Go.Proofs.Ytlddekjlmkimnaa.C
end
section
namespace Go.Proofs.Ytlddekjlmkimnaa.C
open Go.RowKit Go.Proofs.YtlddekjlmkimnaaW.PrintWords Go.Proofs.YtlddekjlmkimnaaW.PrintLast Go.Proofs.YtlddekjlmkimnaaW.PrintMore
set_option linter.unusedVariables false
set_option linter.unusedSimpArgs false

set_option maxRecDepth 100000 in
theorem wake1 (w0 w : World) (g : Nat) (now : Int) (ts : List S88) (rs : List S47) (sv rv : Value) (hB : Below w0.heap.size w0 w) (ha : AO w w0.heap.size g now ts rs sv rv) (own id : Int) (p : Nat) (hp : w.heap[p]? = some (.cells #[.int .i64 own] 3 (0, 0))) (hid : vtimer_asleep.f own = some id) (k : Nat) (z : Int) (az : List S88) (ez : Int) (h : wheel_Cancel.f k now ts id = some (z, az, ez)) :
    Calls Try.prog 55 #[.pointer (some ⟨g, 0, none⟩), .pointer (some ⟨p, 0, none⟩)] w fun e w' => e = .returned (.int .i64 ez) ∧ Below w0.heap.size w0 w' ∧
      ∃ sv', AO w' w0.heap.size g (sel ez z now) (sel ez az ts) rs sv' rv := by
  have c0 : w.cell? ⟨p, 0, none⟩ = some (.int .i64 own) := (blk_cell hp 0).trans rfl
  have HI := Lib.hid (fun W => vtimer_asleep.calls own id W hid)
  have HC := Lib.hid (fun W hb hA => cancel_any w0 W g now ts rs sv rv hb hA id k z az ez h)
  have HA := Lib.hid ha
  have HB := Lib.hid hB
  clear ha hB h hid hp
  go_enter Try.func55, Try.ntmps55
  go_wp2_with fail
  refine (HI.out _).mono ?_
  rintro e w2 ⟨rfl, hd⟩
  obtain ⟨n, rfl⟩ := hd
  go_wp2_with fail
  refine (HC.out (w.drewN n) (by apply pw_below_drewN; exact HB.out) ⟨HA.out.blk, HA.out.lo, Kd.R_drewN HA.out.T _, Kd.R_drewN HA.out.A _⟩).mono ?_
  rintro e w3 ⟨rfl, hb3, hx⟩
  go_wp2
  go_ret
  exact ⟨rfl, hb3, hx⟩
end Go.Proofs.Ytlddekjlmkimnaa.C
end
section
namespace Go.Proofs.Ytlddekjlmkimnaa.C
open Go.RowKit Go.Proofs.YtlddekjlmkimnaaW.PrintWords Go.Proofs.YtlddekjlmkimnaaW.PrintLast Go.Proofs.YtlddekjlmkimnaaW.PrintMore
set_option linter.unusedVariables false
set_option linter.unusedSimpArgs false

set_option maxRecDepth 100000 in
theorem stop1 (w0 w : World) (g : Nat) (now : Int) (ts : List S88) (rs : List S47) (sv rv : Value) (hB : Below w0.heap.size w0 w) (ha : AO w w0.heap.size g now ts rs sv rv) (hn : rs.length ≤ 1000000) (own id : Int) (p : Nat) (hp : w.heap[p]? = some (.cells #[.int .i64 own] 3 (0, 0))) (hpl : p < w0.heap.size ∨ True) (hid : vtimer_alarmed.f own = some id) (k : Nat) (z : Int) (az : List S88) (ez : Int) (h : wheel_Cancel.f k now ts id = some (z, az, ez))
    (hkeep : ∀ W, Below w0.heap.size w0 W → W.heap[p]? = some (.cells #[.int .i64 own] 3 (0, 0))) :
    Calls Try.prog 51 #[.pointer (some ⟨g, 0, none⟩), .pointer (some ⟨p, 0, none⟩)] w fun e w' => e = .returned (.int .i64 ez) ∧ Below w0.heap.size w0 w' ∧
      ∃ sv' rv', AO w' w0.heap.size g (sel ez z now) (sel ez az ts) (rs.filter (fun x => !(x.f0 == own))) sv' rv' := by
  have c0 : w.cell? ⟨p, 0, none⟩ = some (.int .i64 own) := (blk_cell hp 0).trans rfl
  have HI := Lib.hid (fun W => vtimer_alarmed.calls own id W hid)
  have HC := Lib.hid (fun W sv rv hb hA => cancel_any w0 W g now ts (rs.filter (fun x => !(x.f0 == own))) sv rv hb hA id k z az ez h)
  have HD := Lib.hid (drop_any w0 w g now ts rs sv rv hB ha own hn)
  have HK := Lib.hid hkeep
  clear ha hB h hid hp hkeep
  go_enter Try.func51, Try.ntmps51
  go_wp2_with fail
  refine (HD.out).mono ?_
  rintro e w2 ⟨rfl, hb2, rv2, hA2⟩
  have d0 : w2.cell? ⟨p, 0, none⟩ = some (.int .i64 own) := (blk_cell (HK.out w2 hb2) 0).trans rfl
  have HA2 := Lib.hid hA2
  have HB2 := Lib.hid hb2
  clear hA2 hb2
  go_wp2_with fail
  refine (HI.out _).mono ?_
  rintro e w3 ⟨rfl, hd⟩
  obtain ⟨n, rfl⟩ := hd
  go_wp2_with fail
  refine (HC.out (w2.drewN n) _ _ (by apply pw_below_drewN; exact HB2.out) ⟨HA2.out.blk, HA2.out.lo, Kd.R_drewN HA2.out.T _, Kd.R_drewN HA2.out.A _⟩).mono ?_
  rintro e w4 ⟨rfl, hb4, sv4, hx⟩
  go_wp2
  go_ret
  exact ⟨rfl, hb4, sv4, _, hx⟩
end Go.Proofs.Ytlddekjlmkimnaa.C
end
