import Derived.Test.YtlddekjlmkimnaaJ25
import Derived.Test.YtlddekjlmkimnaaC15
import Derived.Test.YtlddekjlmkimnaaC17
import Derived.Deep.RegionHeld3
import Derived.Deep.DrawnRows
section
namespace Go.Proofs.Ytlddekjlmkimnaa.C
open Go.RowKit Go.Proofs.YtlddekjlmkimnaaW.PrintWords Go.Proofs.YtlddekjlmkimnaaW.PrintLast Go.Proofs.YtlddekjlmkimnaaW.PrintMore
set_option linter.unusedVariables false
set_option linter.unusedSimpArgs false

/-- The rows are put anew. -/
theorem AO.rows {w : World} {base g : Nat} {now : Int} {ts : List S88} {sv rv : Value} (hb : w.heap[g]? = some (.cells #[.int .i64 now, sv, rv] 27 (0, 0))) (lo : base ≤ g) (hT : Kd.R k88 88 w base (fun _ => True) sv ts) (rv' : Value) (rs' : List S47) (hA : Kd.R k47 47 w base (fun _ => True) rv' rs') :
    AO (w.setCell ⟨g, 2, none⟩ rv') base g now ts rs' sv rv' := by
  have b1 := blk_put hb 2 rv' (cs' := #[.int .i64 now, sv, rv']) rfl
  refine ⟨b1, lo, ?_, ?_⟩
  · exact Kd.R_mono (Kd.R_far (p := ⟨g, 2, none⟩) (Kd.R_types hT hb (by decide)) (fun k hk => hk.2) rv') (fun _ _ => trivial)
  · exact Kd.R_mono (Kd.R_far (p := ⟨g, 2, none⟩) (Kd.R_types hA hb (by decide)) (fun k hk => hk.2) rv') (fun _ _ => trivial)

set_option maxRecDepth 100000 in
set_option maxHeartbeats 1000000 in
theorem drop_any (w0 w : World) (g : Nat) (now : Int) (ts : List S88) (rs : List S47) (sv rv : Value) (hB : Below w0.heap.size w0 w) (ha : AO w w0.heap.size g now ts rs sv rv) (own : Int) (hn : rs.length ≤ 1000000) :
    Calls Try.prog 52 #[.pointer (some ⟨g, 0, none⟩), .int .i64 own] w fun e w' => e = .returned (.tuple #[]) ∧ Below w0.heap.size w0 w' ∧
      ∃ rv', AO w' w0.heap.size g now ts (rs.filter (fun x => !(x.f0 == own))) sv rv' := by
  have hbA : Below w.heap.size w (w.alloc (.cells #[.int .i64 own] 3)) := (Below.refl _ _).alloc (Nat.le_refl _) _
  have ha1 := ha.below hbA
  have hB1 := below_step hB hbA
  have hK := blk_new w (.cells #[.int .i64 own] 3)
  obtain ⟨A, c, rfl, hlc, hC⟩ := Kd.R_reads ha.A
  have hdel := delete_any w0 _ _ rs own w.heap.size hB1 ha1.A hn hK
  have c2 : (w.alloc (.cells #[.int .i64 own] 3)).cell? ⟨g, 2, none⟩ = some (.slice A rs.length c) := (blk_cell ha1.blk 2).trans rfl
  have HD := Lib.hid hdel
  have HA1 := Lib.hid ha1
  have HB1 := Lib.hid hB1
  clear hdel ha1 ha hB hB1 hbA hK hC
  go_enter Try.func52, Try.ntmps52
  go_wp2_with fail
  refine (HD.out).mono ?_
  rintro e w2 ⟨v', rfl, hR, hB2, hg⟩
  have hne : some g ≠ (Value.slice A rs.length c).ownBlock := Kd.R_ne HA1.out.A HA1.out.blk (by decide)
  have hA2 : AO w2 w0.heap.size g now ts (rs.filter (fun x => !(x.f0 == own))) sv v' → True := fun _ => trivial
  have blk2 := blk_grown HA1.out.blk hg hne
  have hT2 : Kd.R k88 88 w2 w0.heap.size (fun _ => True) sv ts := Kd.R_over HA1.out.T HA1.out.A (by decide) hg
  have hlo := HA1.out.lo
  have f2 : w2.frozen? ⟨g, 2, none⟩ = false := blk_frozen blk2 2
  have d2 : w2.cell? ⟨g, 2, none⟩ = some (.slice A rs.length c) := (blk_cell blk2 2).trans rfl
  have HX := Lib.hid (show Kd.R k47 47 w2 w0.heap.size (fun _ => True) v' (rs.filter (fun x => !(x.f0 == own))) from hR)
  have HBL := Lib.hid blk2
  have HT2 := Lib.hid hT2
  have HB2 := Lib.hid hB2
  clear hR blk2 hT2 hB2 hg hA2 hne
  obtain ⟨Av, cv, ev⟩ := Kd.R_slice HX.out
  subst ev
  go_wp2
  refine bodyPost_end (results_none rfl _ _ _) rfl ?_
  exact ⟨rfl, below_set HB2.out hlo, _, AO.rows HBL.out hlo HT2.out _ _ HX.out⟩
end Go.Proofs.Ytlddekjlmkimnaa.C
end
section
namespace Go.Proofs.Ytlddekjlmkimnaa.C
open Go.RowKit Go.Proofs.YtlddekjlmkimnaaW.PrintWords Go.Proofs.YtlddekjlmkimnaaW.PrintLast Go.Proofs.YtlddekjlmkimnaaW.PrintMore
set_option linter.unusedVariables false
set_option linter.unusedSimpArgs false

/-! As set_any and drop_any; and it is told what of all that lay before has changed. -/
set_option maxRecDepth 100000 in
set_option maxHeartbeats 1000000 in
theorem set_kept (w0 w : World) (g : Nat) (now : Int) (ts : List S88) (rs : List S47) (sv rv : Value) (hB : Below w0.heap.size w0 w) (ha : AO w w0.heap.size g now ts rs sv rv) (id when' : Int) (k : Nat) (z : Int) (az : List S88) (ez : Int) (h : wheel_Set.f k now ts id when' = some (z, az, ez)) :
    Calls Try.prog 49 #[.pointer (some ⟨g, 0, none⟩), .int .i64 id, .int .i64 when'] w fun e w' => e = .returned (.int .i64 ez) ∧ Below w0.heap.size w0 w' ∧
      Kept w w' (fun k => k = g) ∧ ∃ sv', AO w' w0.heap.size g (sel ez z now) (sel ez az ts) rs sv' rv := by
  obtain ⟨A, c, rfl, hlc, hC⟩ := Kd.R_reads ha.T
  have hset := wheel_Set.calls k now A c ts id when' z az ez w hC hlc h
  have c0 : w.cell? ⟨g, 0, none⟩ = some (.int .i64 now) := (blk_cell ha.blk 0).trans rfl
  have c1 : w.cell? ⟨g, 1, none⟩ = some (.slice A ts.length c) := (blk_cell ha.blk 1).trans rfl
  have HS := Lib.hid hset
  have HA := Lib.hid ha
  have HB := Lib.hid hB
  clear hset ha hB h hC
  go_enter Try.func49, Try.ntmps49
  go_wp2_with fail
  refine (HS.out).mono ?_
  rintro e w2 ⟨v1, rfl, hR, hb2⟩
  have hA2 := HA.out.below hb2
  have hB2 := below_step HB.out hb2
  have hlo := HA.out.lo
  have hR2 : Kd.R k88 88 w2 w0.heap.size (fun _ => True) v1 az := Kd.R_lower hR HB.out.size
  have hgw : g < w2.heap.size := blk_lt hA2.blk
  have d0 : w2.cell? ⟨g, 0, none⟩ = some (.int .i64 now) := (blk_cell hA2.blk 0).trans rfl
  have d1 : w2.cell? ⟨g, 1, none⟩ = some (.slice A ts.length c) := (blk_cell hA2.blk 1).trans rfl
  have f0 : w2.frozen? ⟨g, 0, none⟩ = false := blk_frozen hA2.blk 0
  have f1 : w2.frozen? ⟨g, 1, none⟩ = false := blk_frozen hA2.blk 1
  have HKP := Lib.hid (Kept.of_below hb2 (fun k => k = g))
  have HA2 := Lib.hid hA2
  have HR2 := Lib.hid hR2
  have HB2 := Lib.hid hB2
  obtain ⟨Av, cv, ev⟩ := Kd.R_slice hR2
  subst ev
  clear hA2 hR2 hB2 hR hb2
  by_cases hz : ez = 0
  · subst hz
    go_wp2
    go_ret
    have hX := HA2.out.put z (.slice Av az.length cv) az HR2.out
    refine ⟨rfl, below_alloc (below_set (below_set HB2.out hlo) hlo) _, ((HKP.out.setCell (p := ⟨g, 0, none⟩) (.inl rfl) _).setCell (p := ⟨g, 1, none⟩) (.inl rfl) _).alloc _, .slice Av az.length cv, ?_⟩
    simpa [sel] using hX.below ((Below.refl _ _).alloc (Nat.le_refl _) _)
  · have hz1 : (ez == 0) = false := by simpa using hz
    go_wp2
    go_ret
    refine ⟨rfl, below_alloc HB2.out _, HKP.out.alloc _, .slice A ts.length c, ?_⟩
    simpa [sel, hz] using HA2.out.below ((Below.refl _ _).alloc (Nat.le_refl _) _)
set_option maxRecDepth 100000 in
set_option maxHeartbeats 1000000 in
theorem drop_kept (w0 w : World) (g : Nat) (now : Int) (ts : List S88) (rs : List S47) (sv rv : Value) (hB : Below w0.heap.size w0 w) (ha : AO w w0.heap.size g now ts rs sv rv) (own : Int) (hn : rs.length ≤ 1000000) :
    Calls Try.prog 52 #[.pointer (some ⟨g, 0, none⟩), .int .i64 own] w fun e w' => e = .returned (.tuple #[]) ∧ Below w0.heap.size w0 w' ∧
      Kept w w' (fun k => k = g ∨ some k = rv.ownBlock) ∧ ∃ rv', AO w' w0.heap.size g now ts (rs.filter (fun x => !(x.f0 == own))) sv rv' := by
  have hbA : Below w.heap.size w (w.alloc (.cells #[.int .i64 own] 3)) := (Below.refl _ _).alloc (Nat.le_refl _) _
  have ha1 := ha.below hbA
  have hB1 := below_step hB hbA
  have hK := blk_new w (.cells #[.int .i64 own] 3)
  obtain ⟨A, c, rfl, hlc, hC⟩ := Kd.R_reads ha.A
  have hdel := delete_any w0 _ _ rs own w.heap.size hB1 ha1.A hn hK
  have c2 : (w.alloc (.cells #[.int .i64 own] 3)).cell? ⟨g, 2, none⟩ = some (.slice A rs.length c) := (blk_cell ha1.blk 2).trans rfl
  have HD := Lib.hid hdel
  have HA1 := Lib.hid ha1
  have HB1 := Lib.hid hB1
  clear hdel ha1 ha hB hB1 hbA hK hC
  go_enter Try.func52, Try.ntmps52
  go_wp2_with fail
  refine (HD.out).mono ?_
  rintro e w2 ⟨v', rfl, hR, hB2, hg⟩
  have HKP := Lib.hid (Kept.of_grown (S := fun k => k = g ∨ some k = (Value.slice A rs.length c).ownBlock) hg ((Kept.refl w _).alloc _) (fun k e => .inl (.inr e.symm)))
  have hne : some g ≠ (Value.slice A rs.length c).ownBlock := Kd.R_ne HA1.out.A HA1.out.blk (by decide)
  have hA2 : AO w2 w0.heap.size g now ts (rs.filter (fun x => !(x.f0 == own))) sv v' → True := fun _ => trivial
  have blk2 := blk_grown HA1.out.blk hg hne
  have hT2 : Kd.R k88 88 w2 w0.heap.size (fun _ => True) sv ts := Kd.R_over HA1.out.T HA1.out.A (by decide) hg
  have hlo := HA1.out.lo
  have f2 : w2.frozen? ⟨g, 2, none⟩ = false := blk_frozen blk2 2
  have d2 : w2.cell? ⟨g, 2, none⟩ = some (.slice A rs.length c) := (blk_cell blk2 2).trans rfl
  have HX := Lib.hid (show Kd.R k47 47 w2 w0.heap.size (fun _ => True) v' (rs.filter (fun x => !(x.f0 == own))) from hR)
  have HBL := Lib.hid blk2
  have HT2 := Lib.hid hT2
  have HB2 := Lib.hid hB2
  clear hR blk2 hT2 hB2 hg hA2 hne
  obtain ⟨Av, cv, ev⟩ := Kd.R_slice HX.out
  subst ev
  go_wp2
  refine bodyPost_end (results_none rfl _ _ _) rfl ?_
  exact ⟨rfl, below_set HB2.out hlo, HKP.out.setCell (p := ⟨g, 2, none⟩) (.inl (.inl rfl)) _, _, AO.rows HBL.out hlo HT2.out _ _ HX.out⟩
end Go.Proofs.Ytlddekjlmkimnaa.C
end
section
namespace Go.Proofs.Ytlddekjlmkimnaa.C
open Go.RowKit Go.Proofs.YtlddekjlmkimnaaW.PrintWords Go.Proofs.YtlddekjlmkimnaaW.PrintLast Go.Proofs.YtlddekjlmkimnaaW.PrintMore
set_option linter.unusedVariables false
set_option linter.unusedSimpArgs false
attribute [local go_sem ↓] Go.wp_at_zero Go.wp_at_succ

/-- x among rows: in the place of what is there, or between what is there. -/
def putA (rs : List S47) (i : Nat) (there : Bool) (x : S47) : List S47 := if there = true then rs.set i x else rs.take i ++ x :: rs.drop i

theorem AO.drewN {w : World} {base g : Nat} {now : Int} {ts : List S88} {rs : List S47} {sv rv : Value} (h : AO w base g now ts rs sv rv) (n : Nat) : AO (w.drewN n) base g now ts rs sv rv := ⟨h.blk, h.lo, Kd.R_drewN h.T _, Kd.R_drewN h.A _⟩
theorem AO.drew {w : World} {base g : Nat} {now : Int} {ts : List S88} {rs : List S47} {sv rv : Value} (h : AO w base g now ts rs sv rv) : AO w.drew base g now ts rs sv rv := ⟨h.blk, h.lo, Kd.R_drew h.T, Kd.R_drew h.A⟩
theorem AO.alloc {w : World} {base g : Nat} {now : Int} {ts : List S88} {rs : List S47} {sv rv : Value} (h : AO w base g now ts rs sv rv) (o : Obj) : AO (w.alloc o) base g now ts rs sv rv := ⟨blk_alloc h.blk _, h.lo, Kd.R_alloc h.T _, Kd.R_alloc h.A _⟩
theorem AO.elem {w : World} {base g b c : Nat} {now : Int} {ts : List S88} {rs : List S47} {sv : Value} (h : AO w base g now ts rs sv (.slice (some ⟨b, 0, none⟩) rs.length c)) (i : Nat) (hi : i < rs.length) (x : S47) :
    base ≤ b ∧ AO (((w.setCell ⟨b, i * 3, none⟩ (.int .i64 x.f0)).setCell ⟨b, i * 3 + 1, none⟩ (.int .i64 x.f1)).setCell ⟨b, i * 3 + 2, none⟩ (.int .i64 x.f2)) base g now ts (rs.set i x) sv (.slice (some ⟨b, 0, none⟩) rs.length c) := by
  obtain ⟨cs, hcl, hM, hcc, hfr⟩ := Kd.R_elem h.A z47 (i : Int) (by omega) (by omega)
  have hcl3 : cs.length = 3 := hcl
  have hseg := Kd.R_seg (seg := [.int .i64 x.f0, .int .i64 x.f1, .int .i64 x.f2]) (j := 0) (x' := x) (okp := fun k => True ∧ k ≠ b) h.A (i : Int) (by omega) (by omega) hcl hcc (by show 0 + 3 ≤ 3; omega)
    (by
      have : cs.take 0 ++ [Value.int .i64 x.f0, .int .i64 x.f1, .int .i64 x.f2] ++ cs.drop (0 + [Value.int .i64 x.f0, .int .i64 x.f1, .int .i64 x.f2].length) = [.int .i64 x.f0, .int .i64 x.f1, .int .i64 x.f2] := by
        rw [List.drop_of_length_le (by simp [hcl3])]; simp
      rw [this]; exact k47_mkM _ _ _ x) (fun k hk => hk)
  obtain ⟨hR, hg⟩ := hseg
  have e1 : ((i : Int).toNat * k47.sz + 0) = i * 3 := rfl
  rw [e1] at hR hg
  have hown : (Value.slice (some ⟨b, 0, none⟩) rs.length c).ownBlock = some b := by simp [Value.ownBlock]
  have hne : some g ≠ (Value.slice (some ⟨b, 0, none⟩) rs.length c).ownBlock := Kd.R_ne h.A h.blk (by decide)
  have hg' : w.grownBy (w.setCells b (i * 3) [.int .i64 x.f0, .int .i64 x.f1, .int .i64 x.f2]) (Value.slice (some ⟨b, 0, none⟩) rs.length c).ownBlock := by rw [hown]; exact hg
  refine ⟨Kd.R_base h.A b hown, ?_⟩
  have hR' : Kd.R k47 47 (w.setCells b (i * 3) [.int .i64 x.f0, .int .i64 x.f1, .int .i64 x.f2]) base (fun _ => True) (.slice (some ⟨b, 0, none⟩) rs.length c) (rs.set i x) := by simpa using hR
  exact ⟨blk_grown h.blk hg' hne, h.lo, Kd.R_over h.T h.A (by decide) hg', hR'⟩

theorem litA (w : World) (base : Nat) (hb : base ≤ w.heap.size) (x : S47) : Kd.R k47 47 (w.alloc (.cells #[.int .i64 x.f0, .int .i64 x.f1, .int .i64 x.f2] 47)) base (fun _ => True) (.slice (some ⟨w.heap.size, 0, none⟩) [x].length 1) [x] := by
  have h2 := World.ownsRow_lit (base := base) (e := 47) (size := 3) w #[.int .i64 x.f0, .int .i64 x.f1, .int .i64 x.f2] 1 hb (by simp [maxLen]) (by simp)
  refine A_mk ?_ (fun _ _ => trivial)
  rw [flat_oneA]
  simpa [encA] using h2

/-- slices.Insert among the rows of alarms in a block of the call's own. -/
theorem insert_any (w0 w : World) (g : Nat) (now : Int) (ts : List S88) (rs : List S47) (sv rv u : Value) (x : S47) (hB : Below w0.heap.size w0 w) (ha : AO w w0.heap.size g now ts rs sv rv) (hu : Kd.R k47 47 w w0.heap.size (fun _ => True) u [x]) (hne : ∀ k, some k = rv.ownBlock → some k ≠ u.ownBlock)
    (i : Nat) (hi : i ≤ rs.length) (hn : rs.length ≤ 1000000) :
    Calls Try.prog 50 #[rv, .int .i64 i, u] w fun e w' => ∃ v', e = .returned v' ∧ Below w0.heap.size w0 w' ∧ w'.heap[g]? = some (.cells #[.int .i64 now, sv, rv] 27 (0, 0)) ∧ Kd.R k88 88 w' w0.heap.size (fun _ => True) sv ts ∧
      Kd.R k47 47 w' w0.heap.size (fun _ => True) v' (rs.take i ++ x :: rs.drop i) ∧ Kept w w' (fun k => some k = rv.ownBlock ∨ some k = u.ownBlock) := by
  have hc := api_Alarm_50.calls (fun k => some k = rv.ownBlock) rv rs i (fun k => some k = u.ownBlock) u [x] (rs.take i ++ [x] ++ rs.drop i) [x] w0 w hB (Kd.R_tight rfl ha.A) hne (Kd.R_tight rfl hu) (fun k h h' => hne k h' h)
    (by unfold api_Alarm_50.f; rw [if_pos ⟨hn, by omega, by omega, rfl⟩]; simp)
  refine hc.mono ?_
  rintro e w' ⟨v', rfl, hR, -, hb, hk⟩
  have hty : ∀ k, (some k = rv.ownBlock ∨ some k = u.ownBlock) → ∃ cells, w.heap[k]? = some (.cells cells 47 (0, 0)) := by
    rintro k (h | h)
    · exact Kd.R_typed ha.A k h.symm
    · exact Kd.R_typed hu k h.symm
  refine ⟨v', rfl, hb, blk_kept ha.blk hk (fun h => ?_), ?_, Kd.R_mono (by simpa using hR) (fun _ _ => trivial), hk⟩
  · obtain ⟨cells, hc⟩ := hty g h
    rw [ha.blk] at hc
    simp at hc
  · refine Kd.R_mono (Kd.R_kept (Kd.R_tight rfl ha.T) hk (fun k hk h => ?_)) (fun _ _ => trivial)
    obtain ⟨c1, h1⟩ := hty k h
    obtain ⟨c2, h2⟩ := Kd.R_typed ha.T k hk.symm
    rw [h1] at h2
    simp at h2
end Go.Proofs.Ytlddekjlmkimnaa.C
end
