import Derived.Test.YtlddekjlmkimnaaJ5
import Derived.Test.YtlddekjlmkimnaaJ30
import Derived.RangeFuncBox
import Derived.RangeFuncLeaves
import Derived.Shelf.Abstract
import Derived.OwnWalkIn
import Derived.TacticsInMore
import Derived.LoopNIn
import Derived.LoopIn
section
namespace Go.Proofs.Ytlddekjlmkimnaa.C
open Go.RowKit Go.Shelf Go.Proofs.YtlddekjlmkimnaaW.PrintWords Go.Proofs.YtlddekjlmkimnaaW.PrintLast Go.Proofs.YtlddekjlmkimnaaW.PrintMore
set_option linter.unusedVariables false
set_option linter.unusedSimpArgs false
attribute [local go_sem] Oper.semAt_some

theorem atT {w : World} {A : Option Addr} {n : Nat} {xs : List S88} (h : Kd.C k88 w A n xs) (i : Nat) (hi : i < n) : ∃ ad, A = some ad ∧ w.cell? (ad.add (i * 2)) = some (.int .i64 (xs.getD i z88).f0) ∧
 w.cell? ⟨(ad.add (i * 2)).block, (ad.add (i * 2)).off + 1, none⟩ = some (.int .i64 (xs.getD i z88).f1) := at_T88 h (i : Int) (by omega) (by omega)

set_option maxRecDepth 100000 in
set_option maxHeartbeats 8000000 in
theorem rings1 (n : Nat) (hn : 1 ≤ n) (w0 W : World) (J : List S44 → World → Prop) (l g pf pa : Nat) (now : Int) (ts0 : List S88) (rs0 : List S47) (sv0 rv0 : Value) (Af : Option Addr) (cf : Nat) (L : List S88) (fin : List S88 × List S47 × List S44)
 (hJ : ∀ out A B, J out A → KO A B → J out B)
 (hY : ∀ (out : List S44) (x : S44) (W1 : World) (ts : List S88) (rs : List S47) (sv rv : Value), RI w0 W1 J g pf pa now ts rs out sv rv Af cf L → out.length < L.length → YieldAt Fence.wide (n - 1) Try.prog l #[.agg #[.int .i64 x.f0, .int .i64 x.f1, .int .i64 x.f2, .int .i64 x.f3]] W1 fun e W' =>
  e = .returned (.bool true) ∧ RI w0 W' J g pf pa now ts rs (out ++ [x]) sv rv Af cf L)
 (h0 : RI w0 W J g pf pa now ts0 rs0 [] sv0 rv0 Af cf L) (h : ringsGo now ts0 rs0 [] L = some fin) (hL : L.length ≤ 1000000) (hnow : 0 ≤ now ∧ now ≤ 1125899906842624) :
 CallsIn Fence.wide n Try.prog 64 #[.func (.yield l) #[] #[], .pointer (some ⟨pf, 0, none⟩), .pointer (some ⟨pa, 0, none⟩)] W fun e W' => (∃ v, e = .returned v) ∧ ∃ sv rv, RI w0 W' J g pf pa now fin.1 fin.2.1 fin.2.2 sv rv Af cf L := by
 have hcf : W.cell? ⟨pf, 0, none⟩ = some (.slice Af L.length cf) := (blk_cell h0.bf 0).trans rfl
 have HJ := Lib.hid hJ
 have HY := Lib.hid hY
 have H0 := Lib.hid h0
 have HR := Lib.hid h
 clear hJ hY h0 h
 refine callsIn_of_wp Try.func64 rfl trivial ?_ rfl
 simp only [Try.ntmps64, List.size_toArray, List.length_cons, List.length_nil, Nat.reduceAdd, Nat.reduceSub, Array.replicate_succ, Array.replicate_zero, List.push_toArray, List.append_toArray, List.nil_append, List.cons_append]
 gi_wp2
 gi_loopw [15] (fun i wr => ∃ (k : Nat) (ts : List S88) (rs : List S47) (out : List S44) (sv rv : Value), k ≤ L.length ∧ i = .int .i64 k ∧ Hid (out.length = k ∧ ringsGo now ts rs out (L.drop k) = some fin) ∧ Hid (RI w0 wr J g pf pa now ts rs out sv rv Af cf L)) (fun i _ => L.length - (intOf i).toNat)
 case atStart => exact ⟨0, ts0, rs0, [], sv0, rv0, Nat.zero_le _, rfl, ⟨rfl, HR.out⟩, H0.out⟩
 case round =>
  obtain ⟨k, ts, rs, out, sv, rv, hk, rfl, HG, HI⟩ := hrel
  clear hcf
  by_cases hlt : k < L.length
  · have hC := (Kd.R_reads' HI.out.fr).2.2
    obtain ⟨ad, rfl, c0, c1⟩ := atT hC k hlt
    have hd' : L.drop k = L[k] :: L.drop (k + 1) := List.drop_eq_getElem_cons hlt
    have hget : L.getD k z88 = L[k] := by simp [List.getD_eq_getElem?_getD, hlt]
    have hgo := HG.out.2
    rw [hd', ← hget] at hgo
    simp only [ringsGo] at hgo
    obtain ⟨r, hr1, hr2⟩ := Option.bind_eq_some_iff.1 hgo
    generalize L.getD k z88 = T at *
    unfold ringF at hr1
    split at hr1
    rotate_left
    · cases hr1
    rename_i hb
    obtain ⟨hb1, hb2, hb3, hb4⟩ := hb
    have HR2 := Lib.hid hr2
    have HO := Lib.hid HG.out.1
    clear hgo hr2 hd' hget hC HG
    by_cases h16 : T.f0 < 16
    · skip
      rw [if_pos h16] at hr1
      split at hr1
      rotate_left
      · cases hr1
      rename_i hbs
      obtain ⟨a, ha1, ha2⟩ := Option.bind_eq_some_iff.1 hr1
      clear hr1
      obtain ⟨W2, hW2⟩ : ∃ W2, (wr.alloc (.cells #[.int .i64 T.f0, .int .i64 T.f1] 88)).alloc (.cells #[.int .i64 (T.f0 % 16 + 1), .int .i64 0, .int .i64 T.f1, .int .i64 0] 44) = W2 := ⟨_, rfl⟩
      have hs2 : W2.heap.size = wr.heap.size + 2 := by subst hW2; simp
      have hb2w : Below wr.heap.size wr W2 := by subst hW2; exact ((Below.refl _ wr).alloc (Nat.le_refl _) _).alloc (by simp) _
      have q5 : W2.heap[wr.heap.size]? = some (.cells #[.int .i64 T.f0, .int .i64 T.f1] 88 (0, 0)) := by subst hW2; exact blk_alloc (blk_new _ _) _
      have q6 : W2.heap[wr.heap.size + 1]? = some (.cells #[.int .i64 (T.f0 % 16 + 1), .int .i64 0, .int .i64 T.f1, .int .i64 0] 44 (0, 0)) := by
       have := blk_new (wr.alloc (.cells #[.int .i64 T.f0, .int .i64 T.f1] 88)) (.cells #[.int .i64 (T.f0 % 16 + 1), .int .i64 0, .int .i64 T.f1, .int .i64 0] 44)
       rw [World.size_alloc] at this
       subst hW2; exact this
      have i2 := HI.out.below HJ.out hb2w
      have HW2 := Lib.hid hW2
      clear hW2
      obtain ⟨Ar, cr, erv⟩ := Kd.R_slice i2.ao.A
      subst erv
      have ma : W2.cell? ⟨pa, 0, none⟩ = some (.pointer (some ⟨g, 0, none⟩)) := (blk_cell i2.ba 0).trans rfl
      have mg2 : W2.cell? ⟨g, 2, none⟩ = some (.slice Ar rs.length cr) := (blk_cell i2.ao.blk 2).trans rfl
      gi_wp2
      rw [HW2.out]
      have mq6_0 : W2.cell? ⟨wr.heap.size + 1, 0, none⟩ = some (.int .i64 (T.f0 % 16 + 1)) := (blk_cell q6 0).trans rfl
      have mq6_1 : W2.cell? ⟨wr.heap.size + 1, 1, none⟩ = some (.int .i64 0) := (blk_cell q6 1).trans rfl
      have mq6_2 : W2.cell? ⟨wr.heap.size + 1, 2, none⟩ = some (.int .i64 T.f1) := (blk_cell q6 2).trans rfl
      have mq6_3 : W2.cell? ⟨wr.heap.size + 1, 3, none⟩ = some (.int .i64 0) := (blk_cell q6 3).trans rfl
      refine wpIn_wide.2 ?_
      refine st_ 12 (fun W => W.cell? ⟨pa, 0, none⟩ = some (.pointer (some ⟨g, 0, none⟩)) ∧ W.cell? ⟨g, 2, none⟩ = some (.slice Ar rs.length cr) ∧ W.cell? ⟨wr.heap.size + 1, 0, none⟩ = some (.int .i64 (T.f0 % 16 + 1))) [] ⟨ma, mg2, mq6_0⟩ (fun hHeld => ?_)
      refine tk_ 0 30 rfl rfl hHeld (by rintro w' ⟨s0, s1, s2⟩; go_simp; with_reducible rfl) ?_
      refine pk_ 1 31 ?_
      refine pk_ 2 32 ?_
      refine tk_ 3 33 rfl rfl hHeld (by rintro w' ⟨s0, s1, s2⟩; go_simp; with_reducible rfl) ?_
      refine pk_ 4 34 ?_
      refine tk_ 5 35 rfl rfl hHeld (by rintro w' ⟨s0, s1, s2⟩; go_simp; with_reducible rfl) ?_
      refine ok1_ 6 36 rfl rfl (fun K hK => ?_)
      refine goes_ Try.func29 (by kernel_rfl) rfl #[.slice Ar rs.length cr, .int .i64 (T.f0 % 16 + 1)] (by rfl) rfl rfl M_ ?_
      refine (vtimer_at.calls Ar cr rs (T.f0 % 16 + 1) _ _ _ (Kd.C_drew (Kd.R_reads' i2.ao.A).2.2) (Kd.R_reads' i2.ao.A).2.1 (atA_f rs (T.f0 % 16 + 1) (by omega))).mono ?_
      rintro e w6 ⟨rfl, hb6⟩
      have i6 := i2.below HJ.out (below_step (below_drew (Below.refl _ _)) hb6)
      have q5b := blk_below (w := W2.drew) q5 hb6
      have q6b := blk_below (w := W2.drew) q6 hb6
      have hs6 := hb6.size
      refine ⟨_, rfl, ?_⟩
      refine hK.out _ _ ⟨(blk_cell i6.ba 0).trans rfl, (blk_cell i6.ao.blk 2).trans rfl, (blk_cell q6b 0).trans rfl⟩ (fun hHeld => ?_)
      clear hK K
      refine nm_ 36 ?_
      refine pk_ 7 29 ?_
      refine pk_ 8 37 ?_
      refine pk_ 9 38 ?_
      refine pk_ 10 7 ?_
      refine pk_ 11 8 ?_
      refine done_ (by kernel_rfl) ?_
      have hxx := atA (Kd.R_reads' i6.ao.A).2.2 (bsA rs (T.f0 % 16 + 1)) hbs
      generalize hbi : bsA rs (T.f0 % 16 + 1) = bi at *
      generalize hX : rs.getD bi z47 = X at *
      obtain ⟨adr, ear, x0, x1, x2⟩ := hxx
      subst ear
      have hx6 : w6.cell? ⟨pa, 0, none⟩ = some (.pointer (some ⟨g, 0, none⟩)) := (blk_cell i6.ba 0).trans rfl
      have hy6 : w6.cell? ⟨g, 2, none⟩ = some (.slice (some adr) rs.length cr) := (blk_cell i6.ao.blk 2).trans rfl
      obtain ⟨W7, hW7⟩ : ∃ W7, w6.alloc (.cells #[.int .i64 X.f0, .int .i64 X.f1, .int .i64 X.f2] 47) = W7 := ⟨_, rfl⟩
      have hs7 : W7.heap.size = w6.heap.size + 1 := by subst hW7; simp
      have hb7w : Below w6.heap.size w6 W7 := by subst hW7; exact (Below.refl _ w6).alloc (Nat.le_refl _) _
      have q9 : W7.heap[w6.heap.size]? = some (.cells #[.int .i64 X.f0, .int .i64 X.f1, .int .i64 X.f2] 47 (0, 0)) := by subst hW7; exact blk_new _ _
      have q5c := blk_below q5b hb7w
      have q6c := blk_below q6b hb7w
      have i7 := i6.below HJ.out hb7w
      have HW7 := Lib.hid hW7
      clear hW7 ma mg2 mq6_0 mq6_1 mq6_2 mq6_3 hHeld
      gi_wp2
      rw [HW7.out]
      have v0 : W7.cell? ⟨w6.heap.size, 0, none⟩ = some (.int .i64 X.f0) := (blk_cell q9 0).trans rfl
      have v1 : W7.cell? ⟨w6.heap.size, 1, none⟩ = some (.int .i64 X.f1) := (blk_cell q9 1).trans rfl
      have v2 : W7.cell? ⟨w6.heap.size, 2, none⟩ = some (.int .i64 X.f2) := (blk_cell q9 2).trans rfl
      have v3 : W7.cell? ⟨wr.heap.size, 1, none⟩ = some (.int .i64 T.f1) := (blk_cell q5c 1).trans rfl
      have v4 : W7.cell? ⟨pa, 0, none⟩ = some (.pointer (some ⟨g, 0, none⟩)) := (blk_cell i7.ba 0).trans rfl
      have v5 : W7.cell? ⟨g, 0, none⟩ = some (.int .i64 now) := (blk_cell i7.ao.blk 0).trans rfl
      refine wpIn_wide.2 ?_
      refine st_ 16 (fun W => W.cell? ⟨w6.heap.size, 0, none⟩ = some (.int .i64 X.f0) ∧ W.cell? ⟨w6.heap.size, 1, none⟩ = some (.int .i64 X.f1) ∧ W.cell? ⟨w6.heap.size, 2, none⟩ = some (.int .i64 X.f2) ∧ W.cell? ⟨wr.heap.size, 1, none⟩ = some (.int .i64 T.f1) ∧ W.cell? ⟨pa, 0, none⟩ = some (.pointer (some ⟨g, 0, none⟩)) ∧ W.cell? ⟨g, 0, none⟩ = some (.int .i64 now)) [] ⟨v0, v1, v2, v3, v4, v5⟩ (fun hHeld => ?_)
      refine tk_ 0 47 rfl rfl hHeld (by rintro w' ⟨s0, s1, s2, s3, s4, s5⟩; go_simp; with_reducible rfl) ?_
      refine pk_ 1 48 ?_
      refine tk_ 2 49 rfl rfl hHeld (by rintro w' ⟨s0, s1, s2, s3, s4, s5⟩; go_simp; with_reducible rfl) ?_
      refine tk_ 3 50 rfl rfl hHeld (by rintro w' ⟨s0, s1, s2, s3, s4, s5⟩; go_simp; with_reducible rfl) ?_
      refine pk_ 4 51 ?_
      refine pk_ 5 52 ?_
      refine pk_ 6 53 ?_
      refine tk_ 7 54 rfl rfl hHeld (by rintro w' ⟨s0, s1, s2, s3, s4, s5⟩; go_simp; with_reducible rfl) ?_
      refine ok1_ 8 55 rfl rfl (fun K hK => ?_)
      refine goes_ Try.func65 (by kernel_rfl) rfl #[.agg #[.int .i64 X.f0, .int .i64 X.f1, .int .i64 X.f2], .int .i64 T.f1, .int .i64 now] (by rfl) rfl rfl M_ ?_
      refine (vtimer_again.calls X.f0 X.f1 X.f2 T.f1 now a.1 a.2.1 a.2.2 _ ha1).mono ?_
      rintro e w8 ⟨rfl, hb8⟩
      have i8 := i7.below HJ.out (below_step (below_drew (Below.refl _ _)) hb8)
      have q5d := blk_below (w := W7.drew) q5c hb8
      have q6d := blk_below (w := W7.drew) q6c hb8
      have q9d := blk_below (w := W7.drew) q9 hb8
      have hs8 := hb8.size
      refine ⟨_, rfl, ?_⟩
      refine hK.out _ _ ⟨(blk_cell q9d 0).trans rfl, (blk_cell q9d 1).trans rfl, (blk_cell q9d 2).trans rfl, (blk_cell q5d 1).trans rfl, (blk_cell i8.ba 0).trans rfl, (blk_cell i8.ao.blk 0).trans rfl⟩ (fun hHeld => ?_)
      clear hK K
      refine nm_ 55 ?_
      refine pk_ 9 46 ?_
      refine pk_ 10 56 ?_
      refine pk_ 11 57 ?_
      refine pk_ 12 58 ?_
      refine pk_ 13 10 ?_
      refine pk_ 14 11 ?_
      refine pk_ 15 12 ?_
      refine done_ (by kernel_rfl) ?_
      obtain ⟨ms, nx, ok⟩ := a
      have hbw8 : Below wr.heap.size wr w8 := below_step (below_drew (below_step (below_step (below_drew hb2w) hb6) hb7w)) hb8
      have hs8' : w6.heap.size + 1 ≤ w8.heap.size := by rw [← hs7]; exact hs8
      have hs6' : wr.heap.size + 2 ≤ w6.heap.size := by rw [← hs2]; exact hs6
      obtain ⟨W9, hW9⟩ : ∃ W9, (w8.setCell ⟨wr.heap.size + 1, 1, none⟩ (.int .i64 X.f1)).setCell ⟨wr.heap.size + 1, 3, none⟩ (.int .i64 ms) = W9 := ⟨_, rfl⟩
      have hbw9 : Below wr.heap.size wr W9 := by subst hW9; exact below_set (below_set hbw8 (by omega)) (by omega)
      have q6e : W9.heap[wr.heap.size + 1]? = some (.cells #[.int .i64 (T.f0 % 16 + 1), .int .i64 X.f1, .int .i64 T.f1, .int .i64 ms] 44 (0, 0)) := by
       subst hW9; exact blk_put (blk_put q6d 1 _ (cs' := #[.int .i64 (T.f0 % 16 + 1), .int .i64 X.f1, .int .i64 T.f1, .int .i64 0]) rfl) 3 _ rfl
      have q5e : W9.heap[wr.heap.size]? = some (.cells #[.int .i64 T.f0, .int .i64 T.f1] 88 (0, 0)) := by subst hW9; exact blk_far (blk_far q5d (by show _ ≠ wr.heap.size + 1; omega) _) (by show _ ≠ wr.heap.size + 1; omega) _
      have q9e : W9.heap[w6.heap.size]? = some (.cells #[.int .i64 X.f0, .int .i64 X.f1, .int .i64 X.f2] 47 (0, 0)) := by subst hW9; exact blk_far (blk_far q9d (by show _ ≠ wr.heap.size + 1; omega) _) (by show _ ≠ wr.heap.size + 1; omega) _
      have i9 := HI.out.below HJ.out hbw9
      have n1 : w8.cell? ⟨wr.heap.size + 1, 1, none⟩ = some (.int .i64 0) := (blk_cell q6d 1).trans rfl
      have n3 : w8.cell? ⟨wr.heap.size + 1, 3, none⟩ = some (.int .i64 0) := (blk_cell q6d 3).trans rfl
      have f1 := blk_frozen q6d 1
      have f3 := blk_frozen q6d 3
      have z1 : w8.cell? ⟨w6.heap.size, 1, none⟩ = some (.int .i64 X.f1) := (blk_cell q9d 1).trans rfl
      have z0 : W9.cell? ⟨w6.heap.size, 0, none⟩ = some (.int .i64 X.f0) := (blk_cell q9e 0).trans rfl
      have z5 : W9.cell? ⟨wr.heap.size, 0, none⟩ = some (.int .i64 T.f0) := (blk_cell q5e 0).trans rfl
      have za : W9.cell? ⟨pa, 0, none⟩ = some (.pointer (some ⟨g, 0, none⟩)) := (blk_cell i9.ba 0).trans rfl
      have hgl := blk_lt HI.out.ao.blk
      have hrl := Kd.R_lt HI.out.ao.A
      have hgr : ∀ b, wr.heap.size ≤ b → ¬ (b = g ∨ some b = (Value.slice (some adr) rs.length cr).ownBlock) := fun b hb hs => by
       rcases hs with hs | hs
       · omega
       · have := hrl b hs.symm; omega
      clear v0 v1 v2 v3 v4 v5 x0 x1 x2 hx6 hy6 hHeld q5b q5c q6b q6c q9 q5 q6 i2 i6 i7 hbw8
      simp only at ha2
      cases ok with
      | false =>
       simp only [Bool.false_eq_true, if_false, Option.some.injEq] at ha2
       subst ha2
       gi_wp2
       first | refine ⟨trivial, ?_⟩ | skip
       gi_wp2
       first | refine ⟨trivial, ?_⟩ | skip
       refine (callsIn_wide.2 (drop_kept w0 W9 g now ts rs sv (.slice (some adr) rs.length cr) i9.lo i9.ao X.f0 (by omega))).mono ?_
       rintro e w11 ⟨rfl, hb11, hk11, rv11, ha11⟩
       have i11 := i9.kept HJ.out hk11 hb11 ha11
       have q6g := blk_kept q6e hk11 (hgr _ (by omega))
       have mq6g_0 : w11.cell? ⟨wr.heap.size + 1, 0, none⟩ = some (.int .i64 (T.f0 % 16 + 1)) := (blk_cell q6g 0).trans rfl
       have mq6g_1 : w11.cell? ⟨wr.heap.size + 1, 1, none⟩ = some (.int .i64 X.f1) := (blk_cell q6g 1).trans rfl
       have mq6g_2 : w11.cell? ⟨wr.heap.size + 1, 2, none⟩ = some (.int .i64 T.f1) := (blk_cell q6g 2).trans rfl
       have mq6g_3 : w11.cell? ⟨wr.heap.size + 1, 3, none⟩ = some (.int .i64 ms) := (blk_cell q6g 3).trans rfl
       obtain ⟨fn_, tmps_, assign_, body_, hy, hR⟩ := HY.out out ⟨T.f0 % 16 + 1, X.f1, T.f1, ms⟩ w11 _ _ _ _ i11 (by rw [HO.out]; exact hlt)
       gi_wp2
       refine hR.mono ?_
       rintro e W3 ⟨rfl, hI3⟩
       gi_wp2
       go_roundw
       case rel => exact ⟨k + 1, _, _, _, _, _, by omega, by go_num, ⟨by simp [HO.out], HR2.out⟩, hI3⟩
       case measure => simp [intOf]; omega
      | true =>
       simp only [if_true] at ha2
       have hset := set_k now ts T.f0 nx (by omega) (ts.length + 2) (Nat.le_refl _)
       by_cases hz : (setF now ts T.f0 nx).2.2 = 0
       · rw [if_pos hz] at ha2
         obtain rfl := Option.some.inj ha2
         have hset0 : wheel_Set.f (ts.length + 2) now ts T.f0 nx = some (now, (setF now ts T.f0 nx).2.1, 0) := by rw [hset]; exact congrArg some (Prod.ext (setF_now hz) (Prod.ext rfl hz))
         gi_wp2
         first | refine ⟨trivial, ?_⟩ | skip
         refine (callsIn_wide.2 (set_kept w0 W9 g now ts rs sv (.slice (some adr) rs.length cr) i9.lo i9.ao T.f0 nx _ _ _ _ hset0)).mono ?_
         rintro e w10 ⟨rfl, hb10, hk10, sv10, ha10⟩
         have i10 := i9.kept HJ.out (hk10.mono (fun k hk => .inl hk)) hb10 (by simpa [sel] using ha10)
         have q6f := blk_kept q6e hk10 (fun hs => by omega)
         have mq6f_0 : w10.cell? ⟨wr.heap.size + 1, 0, none⟩ = some (.int .i64 (T.f0 % 16 + 1)) := (blk_cell q6f 0).trans rfl
         have mq6f_1 : w10.cell? ⟨wr.heap.size + 1, 1, none⟩ = some (.int .i64 X.f1) := (blk_cell q6f 1).trans rfl
         have mq6f_2 : w10.cell? ⟨wr.heap.size + 1, 2, none⟩ = some (.int .i64 T.f1) := (blk_cell q6f 2).trans rfl
         have mq6f_3 : w10.cell? ⟨wr.heap.size + 1, 3, none⟩ = some (.int .i64 ms) := (blk_cell q6f 3).trans rfl
         obtain ⟨fn_, tmps_, assign_, body_, hy, hR⟩ := HY.out out ⟨T.f0 % 16 + 1, X.f1, T.f1, ms⟩ w10 _ _ _ _ i10 (by rw [HO.out]; exact hlt)
         gi_wp2
         refine hR.mono ?_
         rintro e W3 ⟨rfl, hI3⟩
         gi_wp2
         go_roundw
         case rel => exact ⟨k + 1, _, _, _, _, _, by omega, by go_num, ⟨by simp [HO.out], HR2.out⟩, hI3⟩
         case measure => simp [intOf]; omega
       · rw [if_neg hz] at ha2
         obtain rfl := Option.some.inj ha2
         have hz1 : ((setF now ts T.f0 nx).2.2 != 0) = true := by simpa using hz
         generalize hE : (setF now ts T.f0 nx).2.2 = ez at *
         have hset0 : wheel_Set.f (ts.length + 2) now ts T.f0 nx = some ((setF now ts T.f0 nx).1, (setF now ts T.f0 nx).2.1, ez) := by rw [hset, ← hE]
         gi_wp2
         first | refine ⟨trivial, ?_⟩ | skip
         refine (callsIn_wide.2 (set_kept w0 W9 g now ts rs sv (.slice (some adr) rs.length cr) i9.lo i9.ao T.f0 nx _ _ _ _ hset0)).mono ?_
         rintro e w10 ⟨rfl, hb10, hk10, sv10, ha10⟩
         have i10 := i9.kept HJ.out (hk10.mono (fun k hk => .inl hk)) hb10 (by simpa [sel, hz] using ha10)
         have q6f := blk_kept q6e hk10 (fun hs => by omega)
         have q9f := blk_kept q9e hk10 (fun hs => by omega)
         have y0 : w10.cell? ⟨w6.heap.size, 0, none⟩ = some (.int .i64 X.f0) := (blk_cell q9f 0).trans rfl
         have ya : w10.cell? ⟨pa, 0, none⟩ = some (.pointer (some ⟨g, 0, none⟩)) := (blk_cell i10.ba 0).trans rfl
         gi_wp2
         first | refine ⟨trivial, ?_⟩ | skip
         refine (callsIn_wide.2 (drop_kept w0 w10 g now ts rs sv10 (.slice (some adr) rs.length cr) i10.lo i10.ao X.f0 (by omega))).mono ?_
         rintro e w11 ⟨rfl, hb11, hk11, rv11, ha11⟩
         have i11 := i10.kept HJ.out hk11 hb11 ha11
         have q6g := blk_kept q6f hk11 (hgr _ (by omega))
         have mq6g_0 : w11.cell? ⟨wr.heap.size + 1, 0, none⟩ = some (.int .i64 (T.f0 % 16 + 1)) := (blk_cell q6g 0).trans rfl
         have mq6g_1 : w11.cell? ⟨wr.heap.size + 1, 1, none⟩ = some (.int .i64 X.f1) := (blk_cell q6g 1).trans rfl
         have mq6g_2 : w11.cell? ⟨wr.heap.size + 1, 2, none⟩ = some (.int .i64 T.f1) := (blk_cell q6g 2).trans rfl
         have mq6g_3 : w11.cell? ⟨wr.heap.size + 1, 3, none⟩ = some (.int .i64 ms) := (blk_cell q6g 3).trans rfl
         obtain ⟨fn_, tmps_, assign_, body_, hy, hR⟩ := HY.out out ⟨T.f0 % 16 + 1, X.f1, T.f1, ms⟩ w11 _ _ _ _ i11 (by rw [HO.out]; exact hlt)
         gi_wp2
         refine hR.mono ?_
         rintro e W3 ⟨rfl, hI3⟩
         gi_wp2
         go_roundw
         case rel => exact ⟨k + 1, _, _, _, _, _, by omega, by go_num, ⟨by simp [HO.out], HR2.out⟩, hI3⟩
         case measure => simp [intOf]; omega
    · rw [if_neg h16] at hr1
      obtain rfl := Option.some.inj hr1
      clear hr1
      obtain ⟨W2, hW2⟩ : ∃ W2, (wr.alloc (.cells #[.int .i64 T.f0, .int .i64 T.f1] 88)).alloc (.cells #[.int .i64 (T.f0 % 16 + 1), .int .i64 0, .int .i64 T.f1, .int .i64 0] 44) = W2 := ⟨_, rfl⟩
      have hs2 : W2.heap.size = wr.heap.size + 2 := by subst hW2; simp
      have hb2w : Below wr.heap.size wr W2 := by subst hW2; exact ((Below.refl _ wr).alloc (Nat.le_refl _) _).alloc (by simp) _
      have q5 : W2.heap[wr.heap.size]? = some (.cells #[.int .i64 T.f0, .int .i64 T.f1] 88 (0, 0)) := by subst hW2; exact blk_alloc (blk_new _ _) _
      have q6 : W2.heap[wr.heap.size + 1]? = some (.cells #[.int .i64 (T.f0 % 16 + 1), .int .i64 0, .int .i64 T.f1, .int .i64 0] 44 (0, 0)) := by
       have := blk_new (wr.alloc (.cells #[.int .i64 T.f0, .int .i64 T.f1] 88)) (.cells #[.int .i64 (T.f0 % 16 + 1), .int .i64 0, .int .i64 T.f1, .int .i64 0] 44)
       rw [World.size_alloc] at this
       subst hW2; exact this
      have i2 := HI.out.below HJ.out hb2w
      have HW2 := Lib.hid hW2
      clear hW2
      gi_wp2
      rw [HW2.out]
      have mq5_0 : W2.cell? ⟨wr.heap.size, 0, none⟩ = some (.int .i64 T.f0) := (blk_cell q5 0).trans rfl
      have mq5_1 : W2.cell? ⟨wr.heap.size, 1, none⟩ = some (.int .i64 T.f1) := (blk_cell q5 1).trans rfl
      have mq6_0 : W2.cell? ⟨wr.heap.size + 1, 0, none⟩ = some (.int .i64 (T.f0 % 16 + 1)) := (blk_cell q6 0).trans rfl
      have mq6_1 : W2.cell? ⟨wr.heap.size + 1, 1, none⟩ = some (.int .i64 0) := (blk_cell q6 1).trans rfl
      have mq6_2 : W2.cell? ⟨wr.heap.size + 1, 2, none⟩ = some (.int .i64 T.f1) := (blk_cell q6 2).trans rfl
      have mq6_3 : W2.cell? ⟨wr.heap.size + 1, 3, none⟩ = some (.int .i64 0) := (blk_cell q6 3).trans rfl
      obtain ⟨fn_, tmps_, assign_, body_, hy, hR⟩ := HY.out out ⟨T.f0 % 16 + 1, 0, T.f1, 0⟩ W2 _ _ _ _ i2 (by rw [HO.out]; exact hlt)
      gi_wp2
      refine hR.mono ?_
      rintro e W3 ⟨rfl, hI3⟩
      gi_wp2
      go_roundw
      case rel => exact ⟨k + 1, _, _, _, _, _, by omega, by go_num, ⟨by simp [HO.out], HR2.out⟩, hI3⟩
      case measure => simp [intOf]; omega
  · have hkL : k = L.length := by omega
    subst hkL
    have hf := HG.out.2
    rw [List.drop_length] at hf
    simp only [ringsGo, Option.some.injEq] at hf
    have HF := Lib.hid hf
    clear hf
    gi_wp2
    go_end0
    exact ⟨⟨_, rfl⟩, sv, rv, by rw [← HF.out]; exact HI.out⟩
end Go.Proofs.Ytlddekjlmkimnaa.C
end
section
namespace Go.Proofs.Ytlddekjlmkimnaa.C
open Go.RowKit Go.Shelf Go.Proofs.YtlddekjlmkimnaaW.PrintWords Go.Proofs.YtlddekjlmkimnaaW.PrintLast Go.Proofs.YtlddekjlmkimnaaW.PrintMore
set_option linter.unusedVariables false
set_option linter.unusedSimpArgs false
attribute [local go_sem] Oper.semAt_some

def encR (x : S44) : List Value := [.int .i64 x.f0, .int .i64 x.f1, .int .i64 x.f2, .int .i64 x.f3]
theorem encR_len : ∀ x, (encR x).length = 4 := fun _ => rfl
theorem R44_mk {w : World} {base : Nat} {ok : Nat → Prop} {v : Value} {l : List S44} (h : w.ownsRow base 44 4 v l.length (flat encR l)) (hok : ∀ g, v.ownBlock = some g → ok g) : Kd.R k44 44 w base ok v l := R_mk' rfl encR_len (fun _ _ _ _ => k44_mkM _ _ _ _) h hok

end Go.Proofs.Ytlddekjlmkimnaa.C
end
