import Derived.Test.YtlddekjlmkimnaaJ5
import Derived.Test.YtlddekjlmkimnaaJ6
import Derived.Test.YtlddekjlmkimnaaJ26
import Derived.Test.YtlddekjlmkimnaaJ29
section
namespace Go.Proofs.Ytlddekjlmkimnaa.C
open Go.RowKit Go.Proofs.YtlddekjlmkimnaaW.PrintWords Go.Proofs.YtlddekjlmkimnaaW.PrintLast Go.Proofs.YtlddekjlmkimnaaW.PrintMore
attribute [local go_sem] max2_int min2_int max_two min_two max_three min_three max_four min_four   -- for this text's walks alone
set_option linter.unusedVariables false
set_option linter.unusedSimpArgs false

/-! ### vtimer_again: function 65 -/
def vtimer_again.f (a0_0 : Int) (a0_1 : Int) (a0_2 : Int) (a1 : Int) (a2 : Int) : Option (Int × Int × Bool) := if a0_2 = 0 then (some (0, 0, false)) else (some (wrap64 (Int.tdiv (wrap64 (a2 - a1)) a0_2), wrap64 ((wrap64 (a1 + (wrap64 ((wrap64 (Int.tdiv (wrap64 (a2 - a1)) a0_2)) * a0_2)))) + a0_2), decide ((wrap64 (1125899906842624 - (wrap64 (a1 + (wrap64 ((wrap64 (Int.tdiv (wrap64 (a2 - a1)) a0_2)) * a0_2)))))) ≥ a0_2)))
set_option maxHeartbeats 8000000 in
set_option maxRecDepth 100000 in
theorem vtimer_again.calls (a0_0 : Int) (a0_1 : Int) (a0_2 : Int) (a1 : Int) (a2 : Int) (r1 : Int) (r2 : Int) (r3 : Bool) (w : World) (h : vtimer_again.f a0_0 a0_1 a0_2 a1 a2 = some (r1, r2, r3)) :
 Calls Try.prog 65 #[.agg #[.int .i64 a0_0, .int .i64 a0_1, .int .i64 a0_2], .int .i64 a1, .int .i64 a2] w fun e w' => e = .returned (.tuple #[.int .i64 r1, .int .i64 r2, .bool r3]) ∧ Below w.heap.size w w' := by
 have hu47 := Try.underlying47
 have HB := Aside0.mk (Below.refl w.heap.size w)
 have H : (if a0_2 = 0 then (some (0, 0, false)) else (some (wrap64 (Int.tdiv (wrap64 (a2 - a1)) a0_2), wrap64 ((wrap64 (a1 + (wrap64 ((wrap64 (Int.tdiv (wrap64 (a2 - a1)) a0_2)) * a0_2)))) + a0_2), decide ((wrap64 (1125899906842624 - (wrap64 (a1 + (wrap64 ((wrap64 (Int.tdiv (wrap64 (a2 - a1)) a0_2)) * a0_2)))))) ≥ a0_2)))) = some (r1, r2, r3) := h
 clear h
 by_cases c4 : a0_2 = 0
 · rw [if_pos c4] at H
   have c4b0 : (a0_2 == 0) = true := beq_iff_eq.mpr c4
   have c4b1 : (a0_2 != 0) = false := bne_eq_false_iff_eq.mpr c4
   clear c4
   simp only [Option.some.injEq, Prod.mk.injEq] at H
   obtain ⟨rfl, rfl, rfl⟩ := H
   go_enter Try.func65, Try.ntmps65
   go_wp2_with (first | ((with_reducible refine gate_dst (N := 3) rfl ?_); refine box_ 3 47 #[.int .i64 a0_0, .int .i64 a0_1, .int .i64 a0_2] ?_; intro gb101 hg w5 hbox hb; have BK101 := Aside0.mk (hbox); have GW101 := G_ hg HB; have GE101 := G_ hg HB; replace HB := Ls_ HB hb; clear hb hbox hg; have hcz6_0 : w5.cell? ⟨gb101, 0, none⟩ = some (.int .i64 a0_0) := (blk_cell BK101.out 0).trans rfl; have hcz6_1 : w5.cell? ⟨gb101, 1, none⟩ = some (.int .i64 a0_1) := (blk_cell BK101.out 1).trans rfl; have hcz6_2 : w5.cell? ⟨gb101, 2, none⟩ = some (.int .i64 a0_2) := (blk_cell BK101.out 2).trans rfl; have hfz6_0 := blk_frozen BK101.out 0; have hfz6_1 := blk_frozen BK101.out 1; have hfz6_2 := blk_frozen BK101.out 2))
   repeat (go_quiet (first | ((with_reducible refine gate_dst (N := 3) rfl ?_); refine box_ 3 47 #[.int .i64 a0_0, .int .i64 a0_1, .int .i64 a0_2] ?_; intro gb101 hg w5 hbox hb; have BK101 := Aside0.mk (hbox); have GW101 := G_ hg HB; have GE101 := G_ hg HB; replace HB := Ls_ HB hb; clear hb hbox hg; have hcz6_0 : w5.cell? ⟨gb101, 0, none⟩ = some (.int .i64 a0_0) := (blk_cell BK101.out 0).trans rfl; have hcz6_1 : w5.cell? ⟨gb101, 1, none⟩ = some (.int .i64 a0_1) := (blk_cell BK101.out 1).trans rfl; have hcz6_2 : w5.cell? ⟨gb101, 2, none⟩ = some (.int .i64 a0_2) := (blk_cell BK101.out 2).trans rfl; have hfz6_0 := blk_frozen BK101.out 0; have hfz6_1 := blk_frozen BK101.out 1; have hfz6_2 := blk_frozen BK101.out 2)); try go_wp2_with (first | ((with_reducible refine gate_dst (N := 3) rfl ?_); refine box_ 3 47 #[.int .i64 a0_0, .int .i64 a0_1, .int .i64 a0_2] ?_; intro gb101 hg w5 hbox hb; have BK101 := Aside0.mk (hbox); have GW101 := G_ hg HB; have GE101 := G_ hg HB; replace HB := Ls_ HB hb; clear hb hbox hg; have hcz6_0 : w5.cell? ⟨gb101, 0, none⟩ = some (.int .i64 a0_0) := (blk_cell BK101.out 0).trans rfl; have hcz6_1 : w5.cell? ⟨gb101, 1, none⟩ = some (.int .i64 a0_1) := (blk_cell BK101.out 1).trans rfl; have hcz6_2 : w5.cell? ⟨gb101, 2, none⟩ = some (.int .i64 a0_2) := (blk_cell BK101.out 2).trans rfl; have hfz6_0 := blk_frozen BK101.out 0; have hfz6_1 := blk_frozen BK101.out 1; have hfz6_2 := blk_frozen BK101.out 2)))
   go_ret3
   exact ⟨E_, L_⟩
 · rw [if_neg c4] at H
   have c4b0 : (a0_2 == 0) = false := beq_eq_false_iff_ne.mpr c4
   have c4b1 : (a0_2 != 0) = true := bne_iff_ne.mpr c4
   simp only [Option.some.injEq, Prod.mk.injEq] at H
   obtain ⟨rfl, rfl, rfl⟩ := H
   go_enter Try.func65, Try.ntmps65
   go_wp2_with (first | ((with_reducible refine gate_dst (N := 3) rfl ?_); refine box_ 3 47 #[.int .i64 a0_0, .int .i64 a0_1, .int .i64 a0_2] ?_; intro gb101 hg w7 hbox hb; have BK101 := Aside0.mk (hbox); have GW101 := G_ hg HB; have GE101 := G_ hg HB; replace HB := Ls_ HB hb; clear hb hbox hg; have hcz8_0 : w7.cell? ⟨gb101, 0, none⟩ = some (.int .i64 a0_0) := (blk_cell BK101.out 0).trans rfl; have hcz8_1 : w7.cell? ⟨gb101, 1, none⟩ = some (.int .i64 a0_1) := (blk_cell BK101.out 1).trans rfl; have hcz8_2 : w7.cell? ⟨gb101, 2, none⟩ = some (.int .i64 a0_2) := (blk_cell BK101.out 2).trans rfl; have hfz8_0 := blk_frozen BK101.out 0; have hfz8_1 := blk_frozen BK101.out 1; have hfz8_2 := blk_frozen BK101.out 2))
   repeat (go_quiet (first | ((with_reducible refine gate_dst (N := 3) rfl ?_); refine box_ 3 47 #[.int .i64 a0_0, .int .i64 a0_1, .int .i64 a0_2] ?_; intro gb101 hg w7 hbox hb; have BK101 := Aside0.mk (hbox); have GW101 := G_ hg HB; have GE101 := G_ hg HB; replace HB := Ls_ HB hb; clear hb hbox hg; have hcz8_0 : w7.cell? ⟨gb101, 0, none⟩ = some (.int .i64 a0_0) := (blk_cell BK101.out 0).trans rfl; have hcz8_1 : w7.cell? ⟨gb101, 1, none⟩ = some (.int .i64 a0_1) := (blk_cell BK101.out 1).trans rfl; have hcz8_2 : w7.cell? ⟨gb101, 2, none⟩ = some (.int .i64 a0_2) := (blk_cell BK101.out 2).trans rfl; have hfz8_0 := blk_frozen BK101.out 0; have hfz8_1 := blk_frozen BK101.out 1; have hfz8_2 := blk_frozen BK101.out 2)); try go_wp2_with (first | ((with_reducible refine gate_dst (N := 3) rfl ?_); refine box_ 3 47 #[.int .i64 a0_0, .int .i64 a0_1, .int .i64 a0_2] ?_; intro gb101 hg w7 hbox hb; have BK101 := Aside0.mk (hbox); have GW101 := G_ hg HB; have GE101 := G_ hg HB; replace HB := Ls_ HB hb; clear hb hbox hg; have hcz8_0 : w7.cell? ⟨gb101, 0, none⟩ = some (.int .i64 a0_0) := (blk_cell BK101.out 0).trans rfl; have hcz8_1 : w7.cell? ⟨gb101, 1, none⟩ = some (.int .i64 a0_1) := (blk_cell BK101.out 1).trans rfl; have hcz8_2 : w7.cell? ⟨gb101, 2, none⟩ = some (.int .i64 a0_2) := (blk_cell BK101.out 2).trans rfl; have hfz8_0 := blk_frozen BK101.out 0; have hfz8_1 := blk_frozen BK101.out 1; have hfz8_2 := blk_frozen BK101.out 2)))
   go_ret3
   exact ⟨E_, L_⟩

end Go.Proofs.Ytlddekjlmkimnaa.C
end
section
namespace Go.Proofs.Ytlddekjlmkimnaa.C
open Go.RowKit Go.Proofs.YtlddekjlmkimnaaW.PrintWords Go.Proofs.YtlddekjlmkimnaaW.PrintLast Go.Proofs.YtlddekjlmkimnaaW.PrintMore
set_option linter.unusedVariables false
set_option linter.unusedSimpArgs false

/-! ### What rings: one timer, and all that have fired -/
def ringF (now : Int) (ts : List S88) (rs : List S47) (t : S88) : Option (List S88 × List S47 × S44) :=
  if ts.length ≤ 900000 ∧ rs.length ≤ 900000 ∧ 0 ≤ t.f0 ∧ t.f0 < 32 then
    (if t.f0 < 16 then
      (if bsA rs (t.f0 % 16 + 1) < rs.length then
        (vtimer_again.f (rs.getD (bsA rs (t.f0 % 16 + 1)) z47).f0 (rs.getD (bsA rs (t.f0 % 16 + 1)) z47).f1 (rs.getD (bsA rs (t.f0 % 16 + 1)) z47).f2 t.f1 now).bind fun a =>
          (if a.2.2 = true then
            (if (setF now ts t.f0 a.2.1).2.2 = 0 then some ((setF now ts t.f0 a.2.1).2.1, rs, ⟨t.f0 % 16 + 1, (rs.getD (bsA rs (t.f0 % 16 + 1)) z47).f1, t.f1, a.1⟩)
            else some (ts, rs.filter (fun y => !(y.f0 == (rs.getD (bsA rs (t.f0 % 16 + 1)) z47).f0)), ⟨t.f0 % 16 + 1, (rs.getD (bsA rs (t.f0 % 16 + 1)) z47).f1, t.f1, a.1⟩))
          else some (ts, rs.filter (fun y => !(y.f0 == (rs.getD (bsA rs (t.f0 % 16 + 1)) z47).f0)), ⟨t.f0 % 16 + 1, (rs.getD (bsA rs (t.f0 % 16 + 1)) z47).f1, t.f1, a.1⟩))
      else none)
    else some (ts, rs, ⟨t.f0 % 16 + 1, 0, t.f1, 0⟩))
  else none
def ringsGo (now : Int) : List S88 → List S47 → List S44 → List S88 → Option (List S88 × List S47 × List S44)
  | ts, rs, acc, [] => some (ts, rs, acc)
  | ts, rs, acc, t :: L => (ringF now ts rs t).bind fun r => ringsGo now r.1 r.2.1 (acc ++ [r.2.2]) L

theorem setF_now {now : Int} {ts : List S88} {id at' : Int} (h : (setF now ts id at').2.2 = 0) : (setF now ts id at').1 = now := by
  unfold setF at h ⊢
  split
  · rename_i h1
    rw [if_pos h1] at h
    split
    · rfl
    · rename_i h2
      rw [if_neg h2] at h
      simp at h
  · rename_i h1
    rw [if_neg h1] at h
    simp at h

/-- Nothing has changed but blocks of alarms and of rows of alarms. -/
def KO (A B : World) : Prop := A.heap.size ≤ B.heap.size ∧ ∀ (k : Nat) (o : Obj), A.heap[k]? = some o → (∀ cells fr, o ≠ .cells cells 27 fr ∧ o ≠ .cells cells 47 fr) → B.heap[k]? = some o
theorem KO.of_below {A B : World} (h : Below A.heap.size A B) : KO A B := ⟨h.size, fun k o hk _ => blk_below hk h⟩

/-- What holds at a round's begin. -/
structure RI (w0 wr : World) (J : List S44 → World → Prop) (g pf pa : Nat) (now : Int) (ts : List S88) (rs : List S47) (out : List S44) (sv rv : Value) (Af : Option Addr) (cf : Nat) (L : List S88) : Prop where
  ao : AO wr w0.heap.size g now ts rs sv rv
  j : J out wr
  lo : Below w0.heap.size w0 wr
  bf : wr.heap[pf]? = some (.cells #[.slice Af L.length cf] 22 (0, 0))
  ba : wr.heap[pa]? = some (.cells #[.pointer (some ⟨g, 0, none⟩)] 71 (0, 0))
  fr : Kd.R k88 88 wr w0.heap.size (fun _ => True) (.slice Af L.length cf) L
section
variable {w0 wr W : World} {J : List S44 → World → Prop} {g pf pa : Nat} {now : Int} {ts ts' : List S88} {rs rs' : List S47} {out : List S44} {sv rv sv' rv' : Value} {Af : Option Addr} {cf : Nat} {L : List S88}
theorem RI.below (h : RI w0 wr J g pf pa now ts rs out sv rv Af cf L) (hJ : ∀ out A B, J out A → KO A B → J out B) (hb : Below wr.heap.size wr W) : RI w0 W J g pf pa now ts rs out sv rv Af cf L :=
  ⟨h.ao.below hb, hJ _ _ _ h.j (KO.of_below hb), below_step h.lo hb, blk_below h.bf hb, blk_below h.ba hb, Kd.R_below h.fr hb⟩
theorem RI.kept (h : RI w0 wr J g pf pa now ts rs out sv rv Af cf L) (hJ : ∀ out A B, J out A → KO A B → J out B) (hk : Kept wr W (fun k => k = g ∨ some k = rv.ownBlock)) (hlo : Below w0.heap.size w0 W) (ha : AO W w0.heap.size g now ts' rs' sv' rv') :
    RI w0 W J g pf pa now ts' rs' out sv' rv' Af cf L := by
  have hty : ∀ k, (k = g ∨ some k = rv.ownBlock) → ∃ cells t, wr.heap[k]? = some (.cells cells t (0, 0)) ∧ (t = 27 ∨ t = 47) := by
    rintro k (rfl | h1)
    · exact ⟨_, 27, h.ao.blk, .inl rfl⟩
    · obtain ⟨cells, hc⟩ := Kd.R_typed h.ao.A k h1.symm
      exact ⟨cells, 47, hc, .inr rfl⟩
  have hno : ∀ k cells t, wr.heap[k]? = some (.cells cells t (0, 0)) → t ≠ 27 → t ≠ 47 → ¬ (k = g ∨ some k = rv.ownBlock) := fun k cells t hk h1 h2 hs => by
    obtain ⟨c2, t2, hc, ht⟩ := hty k hs
    rw [hk] at hc
    simp only [Option.some.injEq, Obj.cells.injEq] at hc
    rcases ht with rfl | rfl
    · exact h1 hc.2.1
    · exact h2 hc.2.1
  refine ⟨ha, hJ _ _ _ h.j ⟨hk.1, fun k o ho hn => ?_⟩, hlo, blk_kept h.bf hk (hno _ _ _ h.bf (by decide) (by decide)), blk_kept h.ba hk (hno _ _ _ h.ba (by decide) (by decide)), ?_⟩
  · refine blk_kept ho hk (fun hs => ?_)
    obtain ⟨cells, t, hc, ht⟩ := hty k hs
    rw [ho] at hc
    obtain rfl := Option.some.inj hc
    rcases ht with rfl | rfl
    · exact (hn cells (0, 0)).1 rfl
    · exact (hn cells (0, 0)).2 rfl
  · refine Kd.R_mono (Kd.R_kept (Kd.R_tight rfl h.fr) hk (fun k hk' => ?_)) (fun _ _ => trivial)
    obtain ⟨cells, hc⟩ := Kd.R_typed h.fr k hk'.symm
    exact hno _ _ _ hc (by decide) (by decide)
end
end Go.Proofs.Ytlddekjlmkimnaa.C
end
