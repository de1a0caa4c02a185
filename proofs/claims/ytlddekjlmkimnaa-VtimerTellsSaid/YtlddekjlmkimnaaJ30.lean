import Derived.Test.YtlddekjlmkimnaaJ26
section
namespace Go.Proofs.Ytlddekjlmkimnaa.C
open Go.RowKit Go.Proofs.YtlddekjlmkimnaaW.PrintWords Go.Proofs.YtlddekjlmkimnaaW.PrintLast Go.Proofs.YtlddekjlmkimnaaW.PrintMore
set_option linter.unusedVariables false
set_option linter.unusedSimpArgs false

set_option maxRecDepth 100000 in
set_option maxHeartbeats 4000000 in
theorem delete_any (w0 w : World) (v : Value) (l : List S47) (own : Int) (p : Nat) (hB : Below w0.heap.size w0 w) (hR : Kd.R k47 47 w w0.heap.size (fun _ => True) v l) (hn : l.length ≤ 1000000) (hc : w.heap[p]? = some (.cells #[.int .i64 own] 3 (0, 0))) :
    Calls Try.prog 73 #[v, .func (.func 74) #[] #[.pointer (some ⟨p, 0, none⟩)]] w fun e w' =>
      ∃ v', e = .returned v' ∧ Kd.R k47 47 w' w0.heap.size (fun _ => True) v' (l.filter (fun x => !(x.f0 == own))) ∧ Below w0.heap.size w0 w' ∧ w.grownBy w' v.ownBlock := by
  obtain ⟨A, c, rfl, hlc, hC⟩ := Kd.R_reads hR
  have hp := blk_lt hc
  have hpc : w.cell? ⟨p, 0, none⟩ = some (.int .i64 own) := (blk_cell hc 0).trans rfl
  have hidx := index_any A c l own p w hC hn hp hpc
  by_cases hf : posG own l < l.length
  · have hix : idxF own l = ((posG own l : Nat) : Int) := by unfold idxF; rw [if_pos hf]
    have hneg : ((((posG own l : Nat) : Int)) == -1) = false := by simp
    obtain ⟨g, cap, e, hgb, hgw, cells, hgc⟩ := Kd.R_form hR (by omega)
    injection e with e1 e2 e3
    subst e1; subst e3
    have hhalf := posG_half l own hf
    rw [hix] at hidx
    generalize posG own l = i0 at *
    have HI := Lib.hid hidx
    have HR := Lib.hid hR
    have HB := Lib.hid hB
    have HC := Lib.hid hc
    have HH := Lib.hid hhalf
    clear hidx hR hB hc hC hhalf hgc hix
    go_enter Try.func73, Try.ntmps73
    go_wp2_with fail
    refine (HI.out).mono ?_
    rintro e w2 ⟨rfl, hb2⟩
    have HB2 := Lib.hid (below_step HB.out hb2)
    have HR2 := Lib.hid (Kd.R_below HR.out hb2)
    have HC2 := Lib.hid (blk_below HC.out hb2)
    have HG2 := Lib.hid (show w.grownBy w2 (some g) from ⟨hb2.os, hb2.tape, hb2.output, hb2.size, fun q hq _ => hb2.block q hq⟩)
    clear hb2
    go_wp2_with fail
    have hpg : p ≠ g := by
      obtain ⟨cells', hcc⟩ := Kd.R_typed HR.out g rfl
      exact blk_ne HC.out hcc (by decide)
    go_loopw [5, 6] (fun a b wr => ∃ (i j : Nat) (m : List S47), a = .int .i64 i ∧ b = .int .i64 j ∧ Hid (Half l m own i j) ∧ Hid (i < j) ∧ Hid (Kd.R k47 47 wr w0.heap.size (fun _ => True) (.slice (some ⟨g, 0, none⟩) l.length c) m) ∧ Hid (Below w0.heap.size w0 wr) ∧ Hid (w.grownBy wr (some g))) (fun _ b _ => l.length - (intOf b).toNat)
    case atStart => exact ⟨i0, i0 + 1, l, rfl, by go_num, HH, Nat.lt_succ_self _, HR2, HB2, HG2⟩
    case round =>
      obtain ⟨i, j, m, rfl, rfl, HHm, Hij, HRm, HBm, HGm⟩ := hrel
      have hij := Hij.out
      have hjl := HHm.out.jl
      have hml := HHm.out.len
      have HCm := Lib.hid (blk_grown HC.out HGm.out (by simp; omega))
      by_cases hlt : j < l.length
      · have hx : m.getD j z47 = l.getD j z47 := by
          have h1 := HHm.out.rest
          have h2 : (m.drop j)[0]? = (l.drop j)[0]? := by rw [h1]
          rw [List.getElem?_drop, List.getElem?_drop] at h2
          simp only [Nat.add_zero] at h2
          rw [List.getD_eq_getElem?_getD, List.getD_eq_getElem?_getD, h2]
        obtain ⟨cc, _, hM, hcell, _⟩ := Kd.R_elem HRm.out z47 (j : Int) (by omega) (by omega)
        obtain rfl := k47_openM hM
        rw [Int.toNat_natCast, hx] at hcell
        have x0 : wr.cell? ⟨g, j * 3, none⟩ = some (.int .i64 (l.getD j z47).f0) := hcell 0 _ rfl
        have x1 : wr.cell? ⟨g, j * 3 + 1, none⟩ = some (.int .i64 (l.getD j z47).f1) := hcell 1 _ rfl
        have x2 : wr.cell? ⟨g, j * 3 + 2, none⟩ = some (.int .i64 (l.getD j z47).f2) := hcell 2 _ rfl
        clear hcell hM hx
        have hstep := HHm.out.skip hlt
        have hkeep := HHm.out.keep hlt
        generalize hT : l.getD j z47 = T at *
        have hbA : Below wr.heap.size wr (wr.alloc (.cells #[.int .i64 T.f0, .int .i64 T.f1, .int .i64 T.f2] 47)) := (Below.refl _ _).alloc (Nat.le_refl _) _
        have HRa := Lib.hid (Kd.R_below HRm.out hbA)
        have HBa := Lib.hid (below_step HBm.out hbA)
        have KP := blk_below HCm.out hbA
        have hpc2 : (wr.alloc (.cells #[.int .i64 T.f0, .int .i64 T.f1, .int .i64 T.f2] 47)).cell? ⟨p, 0, none⟩ = some (.int .i64 own) := (blk_cell KP 0).trans rfl
        have hpl := blk_lt KP
        have HD := Lib.hid (del1 T.f0 T.f1 T.f2 own p _ hpl hpc2)
        have HGa := Lib.hid (show w.grownBy (wr.alloc (.cells #[.int .i64 T.f0, .int .i64 T.f1, .int .i64 T.f2] 47)) (some g) from World.grownBy.trans HGm.out (World.grownBy_alloc _ _ _))
        have K7 := blk_new wr (.cells #[.int .i64 T.f0, .int .i64 T.f1, .int .i64 T.f2] 47)
        have HK7 := Lib.hid K7
        clear K7 KP hpc2 hpl hbA
        by_cases d : T.f0 = own
        · have e1 : (T.f0 == own) = true := by simpa using d
          have HS := Lib.hid (hstep d)
          clear hstep hkeep d
          rw [e1] at HD
          go_wp2_with fail
          refine (HD.out).mono ?_
          rintro e w3 ⟨rfl, hb3⟩
          have HR3 := Lib.hid (Kd.R_below HRa.out hb3)
          have HB3 := Lib.hid (below_step HBa.out hb3)
          have HG3 := Lib.hid (World.grownBy.trans HGa.out (show World.grownBy _ w3 (some g) from ⟨hb3.os, hb3.tape, hb3.output, hb3.size, fun q hq _ => hb3.block q hq⟩))
          clear hb3
          go_wp2
          go_roundw
          case rel => exact ⟨i, j + 1, m, rfl, by go_num, HS, (by show i < j + 1; omega), HR3, HB3, HG3⟩
          case measure => simp [intOf]; omega
        · have e1 : (T.f0 == own) = false := by simpa using d
          have HS := Lib.hid (hkeep d)
          clear hstep hkeep d
          rw [e1] at HD
          go_wp2_with fail
          refine (HD.out).mono ?_
          rintro e w3 ⟨rfl, hb3⟩
          have hR3 := Kd.R_below HRa.out hb3
          have HB3 := Lib.hid (below_step HBa.out hb3)
          have HG3 := Lib.hid (World.grownBy.trans HGa.out (show World.grownBy _ w3 (some g) from ⟨hb3.os, hb3.tape, hb3.output, hb3.size, fun q hq _ => hb3.block q hq⟩))
          have K3 := blk_below HK7.out hb3
          have y0 : w3.cell? ⟨wr.heap.size, 0, none⟩ = some (.int .i64 T.f0) := (blk_cell K3 0).trans rfl
          have y1 : w3.cell? ⟨wr.heap.size, 1, none⟩ = some (.int .i64 T.f1) := (blk_cell K3 1).trans rfl
          have y2 : w3.cell? ⟨wr.heap.size, 2, none⟩ = some (.int .i64 T.f2) := (blk_cell K3 2).trans rfl
          obtain ⟨cc, hcl, hM, hcell, hfr⟩ := Kd.R_elem hR3 z47 (i : Int) (by omega) (by omega)
          obtain rfl := k47_openM hM
          have hseg := Kd.R_seg hR3 (i : Int) (by omega) (by omega) (seg := [.int .i64 T.f0, .int .i64 T.f1, .int .i64 T.f2]) (j := 0) hcl hcell (show 0 + 3 ≤ 3 by omega) (x' := T) (k47_mkM _ _ _ T) (fun _ hk => hk)
          have z0 := hcell 0 _ rfl
          have z1 := hcell 1 _ rfl
          have z2 := hcell 2 _ rfl
          have q0 := hfr 0
          have q1 := hfr 1
          have q2 := hfr 2
          rw [Int.toNat_natCast] at z0 z1 z2 q0 q1 q2
          simp only [show k47.sz = 3 from rfl, Nat.add_zero] at z0 z1 z2 q0 q1 q2
          have HSEG := Lib.hid hseg
          clear hseg hcell hfr hM hb3 K3 hcl hR3
          have hil : (i : Int) < (l.length : Int) := by omega
          go_wp2
          go_roundw
          case rel =>
            obtain ⟨s1, s2⟩ := HSEG.out
            rw [Int.toNat_natCast] at s1 s2
            exact ⟨i + 1, j + 1, _, by go_num, by go_num, HS, (by show i + 1 < j + 1; omega), s1, HB3.out.grown s2 HB3.out.size (fun k hk => by injection hk with hk; subst hk; exact hgb), World.grownBy.trans HG3.out s2⟩
          case measure => simp [intOf]; omega
      · obtain rfl : j = l.length := by omega
        have hr1 := A_own HRm.out
        rw [hml] at hr1
        obtain ⟨cur1, hc1, hcs1, hct1, hcl1, hcm1⟩ : ∃ cur1, wr.heap[g]? = some (.cells cur1 47 (0, 0)) ∧ cur1.size = c * 3 ∧ cur1.toList.take (l.length * 3) = flat encA m ∧ l.length ≤ c ∧ c ≤ maxLen := by
          rcases hr1.2 with ⟨e, _⟩ | ⟨g', c', cur', e, _, h1, h4, h5, h2, h3⟩
          · cases e
          · injection e with e1 _ e3
            injection e1 with e1
            injection e1 with e1
            subst e1; subst e3
            exact ⟨_, h1, h2, h3, h4, h5⟩
        obtain ⟨zs, hzs⟩ : ∃ zs, zs = (Builtin.zeroCells (Value.agg #[.int .i64 0, .int .i64 0, .int .i64 0]).cells (l.length - i)).toList := ⟨_, rfl⟩
        have hzl : zs.length = (l.length - i) * 3 := by rw [hzs]; simp [Builtin.zeroCells, Value.cells]
        have hz1 : ∀ v ∈ zs, v.oneCell' = true := by
          rw [hzs]; intro v hv
          simp [Builtin.zeroCells, Value.cells] at hv
          obtain ⟨q, hq, rfl⟩ := hv
          have : q % 3 = 0 ∨ q % 3 = 1 ∨ q % 3 = 2 := by omega
          rcases this with h | h | h <;> rw [h] <;> rfl
        obtain ⟨W2, hW2⟩ : ∃ W2, W2 = wr.setRow g (cur1.toList.take (i * 3) ++ zs ++ cur1.toList.drop (i * 3 + zs.length)).toArray := ⟨_, rfl⟩
        have hrun : ∀ ty cc, (Builtin.clear_ #[25] ty #[.slice (some ⟨g, i * 3, none⟩) (l.length - i) cc]).run Try.prog wr = .ok (.tuple #[]) W2 := fun ty cc => by
          rw [hW2]
          exact run_clearK wr 25 47 ty (.agg #[.int .i64 0, .int .i64 0, .int .i64 0]) Try.underlying25 (fun _ => by kernel_rfl) g (i * 3) (l.length - i) cc cur1 47 hc1 (by omega) zs hzs.symm (by rw [hzl]; omega) hz1
        have hres : Kd.R k47 47 W2 w0.heap.size (fun _ => True) (.slice (some ⟨g, 0, none⟩) i c) (l.filter (fun x => !(x.f0 == own))) := by
          have hmt : m.take i = l.filter (fun x => !(x.f0 == own)) := by rw [HHm.out.fst, List.take_length]
          have hil : (l.filter (fun x => !(x.f0 == own))).length = i := by rw [← hmt, List.length_take]; omega
          refine A_mk ?_ (fun _ _ => trivial)
          rw [hil]
          refine ⟨by rw [flat_len encA_len, hil], .inr ⟨g, c, _, rfl, hgb, by rw [hW2]; exact setRow_heap _ _ _ _ _ _ hc1, by omega, hcm1, ?_, ?_⟩⟩
          · simp only [List.size_toArray, List.length_append, List.length_take, List.length_drop, Array.length_toList, hcs1, hzl]; omega
          · have hq : cur1.toList.length = c * 3 := by rw [Array.length_toList]; exact hcs1
            rw [← hmt, flat_take encA_len, ← hct1, List.take_take]
            show ((cur1.toList.take (i * 3) ++ zs) ++ _).take _ = _
            rw [List.append_assoc, List.take_left' (by rw [List.length_take]; omega)]
            congr 1; omega
        have hg2 : wr.grownBy W2 (some g) := by rw [hW2]; exact grown_setRow _ _ _
        have HE := Lib.hid (And.intro hres (And.intro (HBm.out.grown hg2 HBm.out.size (fun k hk => by injection hk with hk; subst hk; exact hgb)) (World.grownBy.trans HGm.out hg2)))
        have hic : ¬ (c = i) := by omega
        have hil2 : i ≤ l.length := by omega
        have hic2 : i ≤ c := by omega
        have hcmm : c ≤ 9223372036854775807 := hcm1
        clear hres hg2 hW2 hc1 hct1 hr1 hzs hz1
        go_wp2_with (refine wpList_clear_run wr rfl _ 25 rfl _ rfl (hrun _ _) ?_)
        go_ret
        exact ⟨_, rfl, HE.out⟩
  · have hix : idxF own l = -1 := by unfold idxF; rw [if_neg hf]
    have hnone := posG_none l own hf
    rw [hix] at hidx
    have HI := Lib.hid hidx
    have HR := Lib.hid hR
    have HB := Lib.hid hB
    clear hidx hR hB hc hC hix
    go_enter Try.func73, Try.ntmps73
    go_wp2_with fail
    refine (HI.out).mono ?_
    rintro e w2 ⟨rfl, hb2⟩
    go_wp2
    go_ret
    exact ⟨_, rfl, by rw [hnone]; exact Kd.R_below HR.out hb2, below_step HB.out hb2, ⟨hb2.os, hb2.tape, hb2.output, hb2.size, fun q hq _ => hb2.block q hq⟩⟩
end Go.Proofs.Ytlddekjlmkimnaa.C
end
section
namespace Go.Proofs.Ytlddekjlmkimnaa.C
open Go.RowKit Go.Proofs.YtlddekjlmkimnaaW.PrintWords Go.Proofs.YtlddekjlmkimnaaW.PrintLast Go.Proofs.YtlddekjlmkimnaaW.PrintMore
set_option linter.unusedVariables false
set_option linter.unusedSimpArgs false

/-- The rows are put anew. -/
theorem AO.rows {w : World} {base g : Nat} {now : Int} {ts : List S88} {sv rv : Value} (hb : w.heap[g]? = some (.cells #[.int .i64 now, sv, rv] 27 (0, 0))) (lo : base ≤ g) (hT : Kd.R k88 88 w base (fun _ => True) sv ts) (rv' : Value) (rs' : List S47) (hA : Kd.R k47 47 w base (fun _ => True) rv' rs') :
    AO (w.setCell ⟨g, 2, none⟩ rv') base g now ts rs' sv rv' := by
  have b1 := blk_put hb 2 rv' (cs' := #[.int .i64 now, sv, rv']) rfl
  refine ⟨b1, lo, ?_, ?_⟩
  · exact Kd.R_mono (Kd.R_far (p := ⟨g, 2, none⟩) (Kd.R_types hT hb (by decide)) (fun k hk => hk.2) rv') (fun _ _ => trivial)
  · exact Kd.R_mono (Kd.R_far (p := ⟨g, 2, none⟩) (Kd.R_types hA hb (by decide)) (fun k hk => hk.2) rv') (fun _ _ => trivial)

end Go.Proofs.Ytlddekjlmkimnaa.C
end
section
namespace Go.Proofs.Ytlddekjlmkimnaa.C
open Go.RowKit Go.Proofs.YtlddekjlmkimnaaW.PrintWords Go.Proofs.YtlddekjlmkimnaaW.PrintLast Go.Proofs.YtlddekjlmkimnaaW.PrintMore
set_option linter.unusedVariables false
set_option linter.unusedSimpArgs false

/-! As set_any and drop_any; and it is told what of all that lay before has changed. -/
set_option maxRecDepth 100000 in
set_option maxHeartbeats 1000000 in
theorem set_kept (w0 w : World) (g : Nat) (now : Int) (ts : List S88) (rs : List S47) (sv rv : Value) (hB : Below w0.heap.size w0 w) (ha : AO w w0.heap.size g now ts rs sv rv) (id when' : Int) (k : Nat) (z : Int) (az : List S88) (ez : Int) (h : wheel_Set.f k now ts id when' = some (z, az, ez)) :
    Calls Try.prog 49 #[.pointer (some ⟨g, 0, none⟩), .int .i64 id, .int .i64 when'] w fun e w' => e = .returned (.int .i64 ez) ∧ Below w0.heap.size w0 w' ∧
      Kept w w' (fun k => k = g) ∧ ∃ sv', AO w' w0.heap.size g (sel ez z now) (sel ez az ts) rs sv' rv := by
  obtain ⟨A, c, rfl, hlc, hC⟩ := Kd.R_reads ha.T
  have hset := wheel_Set.calls k now A c ts id when' z az ez w hC hlc h
  have c0 : w.cell? ⟨g, 0, none⟩ = some (.int .i64 now) := (blk_cell ha.blk 0).trans rfl
  have c1 : w.cell? ⟨g, 1, none⟩ = some (.slice A ts.length c) := (blk_cell ha.blk 1).trans rfl
  have HS := Lib.hid hset
  have HA := Lib.hid ha
  have HB := Lib.hid hB
  clear hset ha hB h hC
  go_enter Try.func49, Try.ntmps49
  go_wp2_with fail
  refine (HS.out).mono ?_
  rintro e w2 ⟨v1, rfl, hR, hb2⟩
  have hA2 := HA.out.below hb2
  have hB2 := below_step HB.out hb2
  have hlo := HA.out.lo
  have hR2 : Kd.R k88 88 w2 w0.heap.size (fun _ => True) v1 az := Kd.R_lower hR HB.out.size
  have hgw : g < w2.heap.size := blk_lt hA2.blk
  have d0 : w2.cell? ⟨g, 0, none⟩ = some (.int .i64 now) := (blk_cell hA2.blk 0).trans rfl
  have d1 : w2.cell? ⟨g, 1, none⟩ = some (.slice A ts.length c) := (blk_cell hA2.blk 1).trans rfl
  have f0 : w2.frozen? ⟨g, 0, none⟩ = false := blk_frozen hA2.blk 0
  have f1 : w2.frozen? ⟨g, 1, none⟩ = false := blk_frozen hA2.blk 1
  have HKP := Lib.hid (Kept.of_below hb2 (fun k => k = g))
  have HA2 := Lib.hid hA2
  have HR2 := Lib.hid hR2
  have HB2 := Lib.hid hB2
  obtain ⟨Av, cv, ev⟩ := Kd.R_slice hR2
  subst ev
  clear hA2 hR2 hB2 hR hb2
  by_cases hz : ez = 0
  · subst hz
    go_wp2
    go_ret
    have hX := HA2.out.put z (.slice Av az.length cv) az HR2.out
    refine ⟨rfl, below_alloc (below_set (below_set HB2.out hlo) hlo) _, ((HKP.out.setCell (p := ⟨g, 0, none⟩) (.inl rfl) _).setCell (p := ⟨g, 1, none⟩) (.inl rfl) _).alloc _, .slice Av az.length cv, ?_⟩
    simpa [sel] using hX.below ((Below.refl _ _).alloc (Nat.le_refl _) _)
  · have hz1 : (ez == 0) = false := by simpa using hz
    go_wp2
    go_ret
    refine ⟨rfl, below_alloc HB2.out _, HKP.out.alloc _, .slice A ts.length c, ?_⟩
    simpa [sel, hz] using HA2.out.below ((Below.refl _ _).alloc (Nat.le_refl _) _)
set_option maxRecDepth 100000 in
set_option maxHeartbeats 1000000 in
theorem drop_kept (w0 w : World) (g : Nat) (now : Int) (ts : List S88) (rs : List S47) (sv rv : Value) (hB : Below w0.heap.size w0 w) (ha : AO w w0.heap.size g now ts rs sv rv) (own : Int) (hn : rs.length ≤ 1000000) :
    Calls Try.prog 52 #[.pointer (some ⟨g, 0, none⟩), .int .i64 own] w fun e w' => e = .returned (.tuple #[]) ∧ Below w0.heap.size w0 w' ∧
      Kept w w' (fun k => k = g ∨ some k = rv.ownBlock) ∧ ∃ rv', AO w' w0.heap.size g now ts (rs.filter (fun x => !(x.f0 == own))) sv rv' := by
  have hbA : Below w.heap.size w (w.alloc (.cells #[.int .i64 own] 3)) := (Below.refl _ _).alloc (Nat.le_refl _) _
  have ha1 := ha.below hbA
  have hB1 := below_step hB hbA
  have hK := blk_new w (.cells #[.int .i64 own] 3)
  obtain ⟨A, c, rfl, hlc, hC⟩ := Kd.R_reads ha.A
  have hdel := delete_any w0 _ _ rs own w.heap.size hB1 ha1.A hn hK
  have c2 : (w.alloc (.cells #[.int .i64 own] 3)).cell? ⟨g, 2, none⟩ = some (.slice A rs.length c) := (blk_cell ha1.blk 2).trans rfl
  have HD := Lib.hid hdel
  have HA1 := Lib.hid ha1
  have HB1 := Lib.hid hB1
  clear hdel ha1 ha hB hB1 hbA hK hC
  go_enter Try.func52, Try.ntmps52
  go_wp2_with fail
  refine (HD.out).mono ?_
  rintro e w2 ⟨v', rfl, hR, hB2, hg⟩
  have HKP := Lib.hid (Kept.of_grown (S := fun k => k = g ∨ some k = (Value.slice A rs.length c).ownBlock) hg ((Kept.refl w _).alloc _) (fun k e => .inl (.inr e.symm)))
  have hne : some g ≠ (Value.slice A rs.length c).ownBlock := Kd.R_ne HA1.out.A HA1.out.blk (by decide)
  have hA2 : AO w2 w0.heap.size g now ts (rs.filter (fun x => !(x.f0 == own))) sv v' → True := fun _ => trivial
  have blk2 := blk_grown HA1.out.blk hg hne
  have hT2 : Kd.R k88 88 w2 w0.heap.size (fun _ => True) sv ts := Kd.R_over HA1.out.T HA1.out.A (by decide) hg
  have hlo := HA1.out.lo
  have f2 : w2.frozen? ⟨g, 2, none⟩ = false := blk_frozen blk2 2
  have d2 : w2.cell? ⟨g, 2, none⟩ = some (.slice A rs.length c) := (blk_cell blk2 2).trans rfl
  have HX := Lib.hid (show Kd.R k47 47 w2 w0.heap.size (fun _ => True) v' (rs.filter (fun x => !(x.f0 == own))) from hR)
  have HBL := Lib.hid blk2
  have HT2 := Lib.hid hT2
  have HB2 := Lib.hid hB2
  clear hR blk2 hT2 hB2 hg hA2 hne
  obtain ⟨Av, cv, ev⟩ := Kd.R_slice HX.out
  subst ev
  go_wp2
  refine bodyPost_end (results_none rfl _ _ _) rfl ?_
  exact ⟨rfl, below_set HB2.out hlo, HKP.out.setCell (p := ⟨g, 2, none⟩) (.inl (.inl rfl)) _, _, AO.rows HBL.out hlo HT2.out _ _ HX.out⟩
end Go.Proofs.Ytlddekjlmkimnaa.C
end
