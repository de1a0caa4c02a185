import Derived.Test.YtlddekjlmkimnaaJ22
import Derived.Test.YtlddekjlmkimnaaC15
import Derived.Test.YtlddekjlmkimnaaC17
import Derived.Test.YtlddekjlmkimnaaJ6
import Derived.Test.YtlddekjlmkimnaaHat
import Derived.Test.YtlddekjlmkimnaaC9
import Derived.Test.YtlddekjlmkimnaaC11
section
namespace Go.Proofs.Ytlddekjlmkimnaa.C
open Go.RowKit Go.Proofs.YtlddekjlmkimnaaW.PrintWords Go.Proofs.YtlddekjlmkimnaaW.PrintLast Go.Proofs.YtlddekjlmkimnaaW.PrintMore
set_option linter.unusedVariables false
set_option linter.unusedSimpArgs false

/-! ### Which alarms may be -/
def vcpuB (n : Int) : Bool := decide (1 ≤ n) && decide (n ≤ 16)
def okA (x : S47) : Bool := vcpuB x.f0 && (decide (1 ≤ x.f1) && (decide (x.f1 ≤ 32) && (decide (x.f2 = 0) || (decide (1000 ≤ x.f2) && decide (x.f2 ≤ 1125899906842624)))))
def okR : Int → List S47 → Bool
  | _, [] => true
  | last, x :: r => okA x && (decide (last < x.f0) && okR x.f0 r)
def thereA (rs : List S47) (own : Int) : Bool := decide (bsA rs own < rs.length) && decide (dif (rs.getD (bsA rs own) z47).f0 own = 0)
def okV (now : Int) (ts : List S88) (rs : List S47) (own : Int) : Bool := (atF now ts (own - 1)).2 == thereA rs own
def okAl (now : Int) (ts : List S88) (rs : List S47) : Bool := okR 0 rs && (okW now ts && (List.range 16).all (fun v => okV now ts rs ((v : Int) + 1)))

theorem vcpu_f (n : Int) : vtimer_vcpu.f n = some (vcpuB n) := by
  unfold vtimer_vcpu.f vcpuB
  by_cases h : n ≥ 1
  · rw [if_pos h, decide_eq_true (show 1 ≤ n by omega), Bool.true_and]
  · rw [if_neg h, decide_eq_false (show ¬ 1 ≤ n by omega), Bool.false_and]
theorem alarm_f (x : S47) : vtimer_alarm.f x.f0 x.f1 x.f2 = some (okA x) := by
  unfold vtimer_alarm.f okA
  rw [vcpu_f]
  simp only [Option.bind_some]
  cases hv : vcpuB x.f0 with
  | false => by_cases h0 : x.f2 = 0 <;> by_cases h1 : x.f2 ≥ 1000 <;> simp [h0, h1]
  | true =>
    by_cases h2 : 1 ≤ x.f1
    · by_cases h3 : x.f1 ≤ 32
      · by_cases h0 : x.f2 = 0
        · simp [h0, h2, h3]
        · by_cases h1 : 1000 ≤ x.f2 <;> simp [h0, h1, h2, h3]
      · by_cases h0 : x.f2 = 0
        · simp [h0, h2, h3]
        · by_cases h1 : 1000 ≤ x.f2 <;> simp [h0, h1, h2, h3]
    · by_cases h0 : x.f2 = 0
      · simp [h0, h2]
      · by_cases h1 : 1000 ≤ x.f2 <;> simp [h0, h1, h2]
theorem alarmed_f (own : Int) (h0 : 1 ≤ own) (h1 : own ≤ 16) : vtimer_alarmed.f own = some (own - 1) := by
  unfold vtimer_alarmed.f; rw [wrap64_id (by omega) (by omega)]
theorem atA_f (rs : List S47) (own : Int) (hn : rs.length ≤ 1000000) : vtimer_at.f rs own = some ((bsA rs own : Int), thereA rs own) := by
  unfold vtimer_at.f thereA; rw [if_pos hn]

theorem rdA_at (l : List S47) (i : Nat) (h : i < l.length) : rd_T47 l (i : Int) = l[i] := by simp [rd_T47, List.getD_eq_getElem?_getD, h]

theorem chk_l1 (now : Int) (ts : List S88) (rs : List S47) (h1 : ts.length ≤ 1000000) (h2 : rs.length ≤ 1000000) (d : Nat) : ∀ (k v : Nat), v ≤ 16 → 16 - v = d → d < k →
    vtimer_Check.l1 k ((v : Int) + 1) now ts rs = some (if (List.range' v d).all (fun u => okV now ts rs ((u : Int) + 1)) = true then 0 else 280) := by
  induction d with
  | zero =>
    intro k v hv hd hk
    obtain ⟨k, rfl⟩ : ∃ m, k = m + 1 := ⟨k - 1, by omega⟩
    obtain rfl : v = 16 := by omega
    simp only [vtimer_Check.l1]
    rw [if_neg (by omega)]
    simp
  | succ d ih =>
    intro k v hv hd hk
    obtain ⟨k, rfl⟩ : ∃ m, k = m + 1 := ⟨k - 1, by omega⟩
    have ih' := ih k (v + 1) (by omega) (by omega) (by omega)
    simp only [vtimer_Check.l1]
    rw [if_pos (by omega), atA_f rs _ h2, alarmed_f _ (by omega) (by omega), wrap64_id (by omega) (by omega)]
    simp only [Option.bind_some]
    rw [at_f now ts _ h1]
    simp only [Option.bind_some]
    rw [show ((v : Int) + 1 + 1) = (((v + 1 : Nat) : Int) + 1) by omega, ih', List.range'_succ, List.all_cons]
    have e : okV now ts rs ((v : Int) + 1) = ((atF now ts ((v : Int) + 1 - 1)).2 == thereA rs ((v : Int) + 1)) := rfl
    cases h : okV now ts rs ((v : Int) + 1) with
    | true =>
      have : ((atF now ts ((v : Int) + 1 - 1)).2 != thereA rs ((v : Int) + 1)) = false := by rw [bne, ← e, h]; rfl
      rw [this, if_neg (by simp), Bool.true_and]
    | false =>
      have : ((atF now ts ((v : Int) + 1 - 1)).2 != thereA rs ((v : Int) + 1)) = true := by rw [bne, ← e, h]; rfl
      rw [this]
      simp

def lastOf (l : List S47) (i : Nat) : Int := if i = 0 then 0 else (l.getD (i - 1) z47).f0
theorem chk_l0 (now : Int) (ts : List S88) (rs : List S47) (h1 : ts.length ≤ 1000000) (h2 : rs.length ≤ 1000000) (d : Nat) : ∀ (k i : Nat), i ≤ rs.length → rs.length - i = d → d + ts.length + 30 < k →
    vtimer_Check.l0 k (lastOf rs i) rs rs.length i now ts rs = some (if (okR (lastOf rs i) (rs.drop i) && (okW now ts && (List.range 16).all (fun u => okV now ts rs ((u : Int) + 1)))) = true then 0 else 280) := by
  induction d with
  | zero =>
    intro k i hi hd hk
    obtain ⟨k, rfl⟩ : ∃ m, k = m + 1 := ⟨k - 1, by omega⟩
    obtain rfl : i = rs.length := by omega
    simp only [vtimer_Check.l0]
    rw [if_neg (by omega), check_k now ts (by omega) k (by omega)]
    simp only [Option.bind_some, List.drop_length, okR, Bool.true_and]
    have := chk_l1 now ts rs h1 h2 16 k 0 (by omega) (by omega) (by omega)
    rw [show (((0 : Nat) : Int) + 1) = 1 from rfl] at this
    rw [this, List.range_eq_range']
    cases okW now ts <;> simp
  | succ d ih =>
    intro k i hi hd hk
    obtain ⟨k, rfl⟩ : ∃ m, k = m + 1 := ⟨k - 1, by omega⟩
    have hlt : i < rs.length := by omega
    have ih' := ih k (i + 1) (by omega) (by omega) (by omega)
    have hl : lastOf rs (i + 1) = rs[i].f0 := by simp [lastOf, List.getD_eq_getElem?_getD, hlt]
    have hd' : rs.drop i = rs[i] :: rs.drop (i + 1) := List.drop_eq_getElem_cons hlt
    have hw : wrap64 ((i : Int) + 1) = ((i + 1 : Nat) : Int) := by rw [wrap64_id] <;> omega
    rw [hl] at ih'
    simp only [vtimer_Check.l0]
    rw [if_pos (by omega), if_pos (by omega), if_pos (by omega), rdA_at rs i hlt, alarm_f]
    simp only [Option.bind_some]
    rw [hw, ih', hd', okR]
    cases ha : okA rs[i] with
    | false => simp
    | true =>
      simp only [if_true, Bool.true_and]
      by_cases hc : rs[i].f0 ≤ lastOf rs i
      · rw [if_pos hc, decide_eq_false (by omega)]; simp
      · rw [if_neg hc, decide_eq_true (show lastOf rs i < rs[i].f0 by omega), Bool.true_and]
theorem chk_k (now : Int) (ts : List S88) (rs : List S47) (h1 : ts.length ≤ 1000000) (h2 : rs.length ≤ 1000000) (k : Nat) (hk : rs.length + ts.length + 30 < k) : vtimer_Check.f k now ts rs = some (if okAl now ts rs = true then 0 else 280) := by
  unfold vtimer_Check.f okAl
  have := chk_l0 now ts rs h1 h2 rs.length k 0 (by omega) (by omega) (by omega)
  simpa [lastOf] using this
end Go.Proofs.Ytlddekjlmkimnaa.C
end
section
-- Written by a program of this session (wip/tools/stub.py, over the kit's print) and by hand; not the kit's print.
namespace Go.Proofs.Ytlddekjlmkimnaa.C
open Go.RowKit Go.Proofs.YtlddekjlmkimnaaW.PrintWords Go.Proofs.YtlddekjlmkimnaaW.PrintLast Go.Proofs.YtlddekjlmkimnaaW.PrintMore
attribute [local go_sem] max2_int min2_int max_two min_two max_three min_three max_four min_four   -- for this text's walks alone
set_option linter.unusedVariables false
set_option linter.unusedSimpArgs false

/-! ### mainsheetref15_Right: function 43 -/
/-! ### mainsheetref15_At: function 44 -/
/-! ### mainsheetref18_find: function 45 -/
end Go.Proofs.Ytlddekjlmkimnaa.C
end
section
-- Written by a program of this session (wip/tools/stub.py, over the kit's print) and by hand; not the kit's print.
namespace Go.Proofs.Ytlddekjlmkimnaa.C
open Go.RowKit Go.Proofs.YtlddekjlmkimnaaW.PrintWords Go.Proofs.YtlddekjlmkimnaaW.PrintLast Go.Proofs.YtlddekjlmkimnaaW.PrintMore
attribute [local go_sem] max2_int min2_int max_two min_two max_three min_three max_four min_four   -- for this text's walks alone
set_option linter.unusedVariables false
set_option linter.unusedSimpArgs false

theorem eqA47 (d : Nat) (w : World) (x0 y0 : Int) (x1 y1 : Int) (x2 y2 : Int) :
 (Op.equalIn (d + 2) 47 (.agg #[.int .i64 x0, .int .i64 x1, .int .i64 x2]) (.agg #[.int .i64 y0, .int .i64 y1, .int .i64 y2])).run Try.prog w = .ok (x0 == y0 && (x1 == y1 && (x2 == y2))) w := by
 refine eqA_of Try.underlying47 (by kernel_rfl) ?_
 refine eqf_cons (by rfl) (by go_simp; rfl) (by go_simp; rfl) (by go_simp) ?_
 refine eqf_cons (by rfl) (by go_simp; rfl) (by go_simp; rfl) (by go_simp) ?_
 exact eqf_last (by rfl) (by go_simp; rfl) (by go_simp; rfl) (by go_simp)
end Go.Proofs.Ytlddekjlmkimnaa.C
end
section
-- Written by a program of this session (wip/tools/stub.py, over the kit's print) and by hand; not the kit's print.
namespace Go.Proofs.Ytlddekjlmkimnaa.C
open Go.RowKit Go.Proofs.YtlddekjlmkimnaaW.PrintWords Go.Proofs.YtlddekjlmkimnaaW.PrintLast Go.Proofs.YtlddekjlmkimnaaW.PrintMore
attribute [local go_sem] max2_int min2_int max_two min_two max_three min_three max_four min_four   -- for this text's walks alone
set_option linter.unusedVariables false
set_option linter.unusedSimpArgs false

theorem eqA88 (d : Nat) (w : World) (x0 y0 : Int) (x1 y1 : Int) :
 (Op.equalIn (d + 2) 88 (.agg #[.int .i64 x0, .int .i64 x1]) (.agg #[.int .i64 y0, .int .i64 y1])).run Try.prog w = .ok (x0 == y0 && (x1 == y1)) w := by
 refine eqA_of Try.underlying88 (by kernel_rfl) ?_
 refine eqf_cons (by rfl) (by go_simp; rfl) (by go_simp; rfl) (by go_simp) ?_
 exact eqf_last (by rfl) (by go_simp; rfl) (by go_simp; rfl) (by go_simp)
end Go.Proofs.Ytlddekjlmkimnaa.C
end
section
-- Written by a program of this session (wip/tools/stub.py, over the kit's print) and by hand; not the kit's print.
namespace Go.Proofs.Ytlddekjlmkimnaa.C
open Go.RowKit Go.Proofs.YtlddekjlmkimnaaW.PrintWords Go.Proofs.YtlddekjlmkimnaaW.PrintLast Go.Proofs.YtlddekjlmkimnaaW.PrintMore
attribute [local go_sem] max2_int min2_int max_two min_two max_three min_three max_four min_four   -- for this text's walks alone
set_option linter.unusedVariables false
set_option linter.unusedSimpArgs false

attribute [local go_sem high] eqA47 eqA88
/-! ### mainsheetref15_SameTimers: function 69 -/
/-! ### mainsheetref15_Same: function 46 -/
/-! ### mainsheetref18_Same: function 17 -/
/-! ### mainsheetref18_Next: function 18 -/
end Go.Proofs.Ytlddekjlmkimnaa.C
end
section
namespace Go.Proofs.Ytlddekjlmkimnaa.C
open Go.RowKit Go.Sort Go.Proofs.YtlddekjlmkimnaaW.PrintWords Go.Proofs.YtlddekjlmkimnaaW.PrintLast Go.Proofs.YtlddekjlmkimnaaW.PrintMore
set_option linter.unusedVariables false
set_option linter.unusedSimpArgs false

instance : DecidableEq S88 := fun a b => decidable_of_iff (a.f0 = b.f0 ∧ a.f1 = b.f1) (by cases a; cases b; simp)
end Go.Proofs.Ytlddekjlmkimnaa.C
end
section
namespace Go.Proofs.Ytlddekjlmkimnaa.C
open Go.RowKit Go.Sort Go.Proofs.YtlddekjlmkimnaaW.PrintWords Go.Proofs.YtlddekjlmkimnaaW.PrintLast Go.Proofs.YtlddekjlmkimnaaW.PrintMore
set_option linter.unusedVariables false
set_option linter.unusedSimpArgs false

end Go.Proofs.Ytlddekjlmkimnaa.C
end
section
namespace Go.Proofs.Ytlddekjlmkimnaa.C
open Go.RowKit Go.Proofs.YtlddekjlmkimnaaW.PrintWords Go.Proofs.YtlddekjlmkimnaaW.PrintLast Go.Proofs.YtlddekjlmkimnaaW.PrintMore
set_option linter.unusedVariables false
set_option linter.unusedSimpArgs false

/-- The first where there was no error. -/
def sel {α : Type} (e : Int) (a b : α) : α := if e = 0 then a else b
/-- Alarms in a block (g) of the call's own. -/
structure AO (w : World) (base g : Nat) (now : Int) (ts : List S88) (rs : List S47) (sv rv : Value) : Prop where
  blk : w.heap[g]? = some (.cells #[.int .i64 now, sv, rv] 27 (0, 0))
  lo : base ≤ g
  T : Kd.R k88 88 w base (fun _ => True) sv ts
  A : Kd.R k47 47 w base (fun _ => True) rv rs
section
variable {w w1 : World} {base g : Nat} {now : Int} {ts : List S88} {rs : List S47} {sv rv : Value}
theorem AO.below (h : AO w base g now ts rs sv rv) (hb : Below w.heap.size w w1) : AO w1 base g now ts rs sv rv :=
  ⟨blk_below h.blk hb, h.lo, Kd.R_below h.T hb, Kd.R_below h.A hb⟩
/-- The wheel is put anew. -/
theorem AO.put (h : AO w base g now ts rs sv rv) (now' : Int) (sv' : Value) (ts' : List S88) (hT : Kd.R k88 88 w base (fun _ => True) sv' ts') :
    AO ((w.setCell ⟨g, 0, none⟩ (.int .i64 now')).setCell ⟨g, 1, none⟩ sv') base g now' ts' rs sv' rv := by
  have b1 := blk_put h.blk 0 (.int .i64 now') (cs' := #[.int .i64 now', sv, rv]) rfl
  have b2 := blk_put b1 1 sv' (cs' := #[.int .i64 now', sv', rv]) rfl
  refine ⟨b2, h.lo, ?_, ?_⟩
  · have t1 := Kd.R_far (p := ⟨g, 0, none⟩) (Kd.R_types hT h.blk (by decide)) (fun k hk => hk.2) (.int .i64 now')
    exact Kd.R_mono (Kd.R_far (p := ⟨g, 1, none⟩) t1 (fun k hk => hk.2) sv') (fun _ _ => trivial)
  · have t1 := Kd.R_far (p := ⟨g, 0, none⟩) (Kd.R_types h.A h.blk (by decide)) (fun k hk => hk.2) (.int .i64 now')
    exact Kd.R_mono (Kd.R_far (p := ⟨g, 1, none⟩) t1 (fun k hk => hk.2) sv') (fun _ _ => trivial)
end

set_option maxRecDepth 100000 in
set_option maxHeartbeats 1000000 in
theorem set_any (w0 w : World) (g : Nat) (now : Int) (ts : List S88) (rs : List S47) (sv rv : Value) (hB : Below w0.heap.size w0 w) (ha : AO w w0.heap.size g now ts rs sv rv) (id when' : Int) (k : Nat) (z : Int) (az : List S88) (ez : Int) (h : wheel_Set.f k now ts id when' = some (z, az, ez)) :
    Calls Try.prog 49 #[.pointer (some ⟨g, 0, none⟩), .int .i64 id, .int .i64 when'] w fun e w' => e = .returned (.int .i64 ez) ∧ Below w0.heap.size w0 w' ∧
      ∃ sv', AO w' w0.heap.size g (sel ez z now) (sel ez az ts) rs sv' rv := by
  obtain ⟨A, c, rfl, hlc, hC⟩ := Kd.R_reads ha.T
  have hset := wheel_Set.calls k now A c ts id when' z az ez w hC hlc h
  have c0 : w.cell? ⟨g, 0, none⟩ = some (.int .i64 now) := (blk_cell ha.blk 0).trans rfl
  have c1 : w.cell? ⟨g, 1, none⟩ = some (.slice A ts.length c) := (blk_cell ha.blk 1).trans rfl
  have HS := Lib.hid hset
  have HA := Lib.hid ha
  have HB := Lib.hid hB
  clear hset ha hB h hC
  go_enter Try.func49, Try.ntmps49
  go_wp2_with fail
  refine (HS.out).mono ?_
  rintro e w2 ⟨v1, rfl, hR, hb2⟩
  have hA2 := HA.out.below hb2
  have hB2 := below_step HB.out hb2
  have hlo := HA.out.lo
  have hR2 : Kd.R k88 88 w2 w0.heap.size (fun _ => True) v1 az := Kd.R_lower hR HB.out.size
  have hgw : g < w2.heap.size := blk_lt hA2.blk
  have d0 : w2.cell? ⟨g, 0, none⟩ = some (.int .i64 now) := (blk_cell hA2.blk 0).trans rfl
  have d1 : w2.cell? ⟨g, 1, none⟩ = some (.slice A ts.length c) := (blk_cell hA2.blk 1).trans rfl
  have f0 : w2.frozen? ⟨g, 0, none⟩ = false := blk_frozen hA2.blk 0
  have f1 : w2.frozen? ⟨g, 1, none⟩ = false := blk_frozen hA2.blk 1
  have HA2 := Lib.hid hA2
  have HR2 := Lib.hid hR2
  have HB2 := Lib.hid hB2
  obtain ⟨Av, cv, ev⟩ := Kd.R_slice hR2
  subst ev
  clear hA2 hR2 hB2 hR hb2
  by_cases hz : ez = 0
  · subst hz
    go_wp2
    go_ret
    have hX := HA2.out.put z (.slice Av az.length cv) az HR2.out
    refine ⟨rfl, below_alloc (below_set (below_set HB2.out hlo) hlo) _, .slice Av az.length cv, ?_⟩
    simpa [sel] using hX.below ((Below.refl _ _).alloc (Nat.le_refl _) _)
  · have hz1 : (ez == 0) = false := by simpa using hz
    go_wp2
    go_ret
    refine ⟨rfl, below_alloc HB2.out _, .slice A ts.length c, ?_⟩
    simpa [sel, hz] using HA2.out.below ((Below.refl _ _).alloc (Nat.le_refl _) _)
set_option maxRecDepth 100000 in
set_option maxHeartbeats 1000000 in
theorem cancel_any (w0 w : World) (g : Nat) (now : Int) (ts : List S88) (rs : List S47) (sv rv : Value) (hB : Below w0.heap.size w0 w) (ha : AO w w0.heap.size g now ts rs sv rv) (id : Int) (k : Nat) (z : Int) (az : List S88) (ez : Int) (h : wheel_Cancel.f k now ts id = some (z, az, ez)) :
    Calls Try.prog 53 #[.pointer (some ⟨g, 0, none⟩), .int .i64 id] w fun e w' => e = .returned (.int .i64 ez) ∧ Below w0.heap.size w0 w' ∧
      ∃ sv', AO w' w0.heap.size g (sel ez z now) (sel ez az ts) rs sv' rv := by
  obtain ⟨A, c, rfl, hlc, hC⟩ := Kd.R_reads ha.T
  have hset := wheel_Cancel.calls k now A c ts id z az ez w hC hlc h
  have c0 : w.cell? ⟨g, 0, none⟩ = some (.int .i64 now) := (blk_cell ha.blk 0).trans rfl
  have c1 : w.cell? ⟨g, 1, none⟩ = some (.slice A ts.length c) := (blk_cell ha.blk 1).trans rfl
  have HS := Lib.hid hset
  have HA := Lib.hid ha
  have HB := Lib.hid hB
  clear hset ha hB h hC
  go_enter Try.func53, Try.ntmps53
  go_wp2_with fail
  refine (HS.out).mono ?_
  rintro e w2 ⟨v1, rfl, hR, hb2⟩
  have hA2 := HA.out.below hb2
  have hB2 := below_step HB.out hb2
  have hlo := HA.out.lo
  have hR2 : Kd.R k88 88 w2 w0.heap.size (fun _ => True) v1 az := Kd.R_lower hR HB.out.size
  have hgw : g < w2.heap.size := blk_lt hA2.blk
  have d0 : w2.cell? ⟨g, 0, none⟩ = some (.int .i64 now) := (blk_cell hA2.blk 0).trans rfl
  have d1 : w2.cell? ⟨g, 1, none⟩ = some (.slice A ts.length c) := (blk_cell hA2.blk 1).trans rfl
  have f0 : w2.frozen? ⟨g, 0, none⟩ = false := blk_frozen hA2.blk 0
  have f1 : w2.frozen? ⟨g, 1, none⟩ = false := blk_frozen hA2.blk 1
  have HA2 := Lib.hid hA2
  have HR2 := Lib.hid hR2
  have HB2 := Lib.hid hB2
  obtain ⟨Av, cv, ev⟩ := Kd.R_slice hR2
  subst ev
  clear hA2 hR2 hB2 hR hb2
  by_cases hz : ez = 0
  · subst hz
    go_wp2
    go_ret
    have hX := HA2.out.put z (.slice Av az.length cv) az HR2.out
    refine ⟨rfl, below_alloc (below_set (below_set HB2.out hlo) hlo) _, .slice Av az.length cv, ?_⟩
    simpa [sel] using hX.below ((Below.refl _ _).alloc (Nat.le_refl _) _)
  · have hz1 : (ez == 0) = false := by simpa using hz
    go_wp2
    go_ret
    refine ⟨rfl, below_alloc HB2.out _, .slice A ts.length c, ?_⟩
    simpa [sel, hz] using HA2.out.below ((Below.refl _ _).alloc (Nat.le_refl _) _)
end Go.Proofs.Ytlddekjlmkimnaa.C
end
