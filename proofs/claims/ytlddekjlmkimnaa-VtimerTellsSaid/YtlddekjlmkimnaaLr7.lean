import Derived.Test.YtlddekjlmkimnaaJ5
import Derived.Test.YtlddekjlmkimnaaC20
namespace Go.Proofs.Ytlddekjlmkimnaa.C
open Go.RowKit Go.Proofs.YtlddekjlmkimnaaW.PrintWords Go.Proofs.YtlddekjlmkimnaaW.PrintLast Go.Proofs.YtlddekjlmkimnaaW.PrintMore
set_option linter.unusedVariables false
set_option linter.unusedSimpArgs false

theorem apart_old {α β : Type} {d : Kd α} {d' : Kd β} {e e' b n : Nat} {W W' : World} {v u : Value} {xs : List α} {ys : List β} (h : d.R e W b (fun _ => True) v xs) (h' : d'.R e' W' n (fun _ => True) u ys) (hle : W.heap.size ≤ n) : d.R e W b (fun k => some k ≠ u.ownBlock) v xs :=
 Kd.R_mono (Kd.R_bound h) (fun k hk he => by have := Kd.R_base h' k he.symm; have := hk.2.2.1; omega)
theorem apart_new {α β : Type} {d : Kd α} {d' : Kd β} {e e' b n : Nat} {W W' : World} {v u : Value} {xs : List α} {ys : List β} (h : d.R e W b (fun _ => True) v xs) (h' : d'.R e' W' n (fun _ => True) u ys) (hle : W.heap.size ≤ n) : d'.R e' W' n (fun k => some k ≠ v.ownBlock) u ys :=
 Kd.R_mono (Kd.R_bound h') (fun k hk he => by have := Kd.R_lt h k he.symm; have := hk.2.1; omega)

set_option maxRecDepth 100000 in
set_option maxHeartbeats 8000000 in
/-- The region in which the two copies and the two blocks are made (a := short(x), first := short(l[0])), whatever the order; hJ: what follows. -/
theorem tells_r7 {Q : Exit → Act → World → Prop} (w wb : World) (gb : Nat) (na : Int) (A1 : Option Addr) (c1 : Nat) (la : List S88) (A2 : Option Addr) (c2 : Nat) (ma : List S47) (ad : Addr) (nb : Int) (A3 : Option Addr) (c3 : Nat) (lb : List S88) (A4 : Option Addr) (c4 : Nat) (mb : List S47)
 (t352 : Int) (t353 : List S88) (t356 : List S47) (t360 : Int) (t361 : List S88) (t364 : List S47) (HB : Below w.heap.size w wb) (BK : wb.heap[gb]? = some (.cells #[.int .i64 na, .slice A1 la.length c1, .slice A2 ma.length c2] 27 (0, 0)))
 (hw0 : w.cell? ad = some (.int .i64 nb)) (hw1 : w.cell? ⟨ad.block, ad.off + 1, none⟩ = some (.slice A3 lb.length c3)) (hw2 : w.cell? ⟨ad.block, ad.off + 2, none⟩ = some (.slice A4 mb.length c4))
 (hr1 : Kd.C k88 w A1 la.length la) (hc1 : la.length ≤ c1) (hr2 : Kd.C k47 w A2 ma.length ma) (hc2 : ma.length ≤ c2) (hr3 : Kd.C k88 w A3 lb.length lb) (hc3 : lb.length ≤ c3) (hr4 : Kd.C k47 w A4 mb.length mb) (hc4 : mb.length ≤ c4)
 (h1 : mainsheetlaw18_short.f na la ma = some (t352, t353, t356)) (h5 : mainsheetlaw18_short.f nb lb mb = some (t360, t361, t364)) (ops : Array Oper) (hops : ops = opsOf Try.f5 7) (u0 u1 u2 u3 u4 u5 u6 u7 u8 u9 u10 u11 u12 u13 u14 u15 u16 u17 u18 u19 u20 u21 u22 u23 u24 u25 u26 u27 u28 u29 u30 u31 u32 u34 u35 u36 u38 u39 u40 u41 u42 u43 u44 u45 u46 u47 u48 u49 u50 u51 u52 u53 u54 u55 u56 u57 u58 u59 u60 u61 u62 u63 u64 u65 u66 u67 u68 u69 u70 u71 u72 u73 u74 u75 u76 u77 u78 u79 u80 u81 u82 u83 u84 u85 u86 u87 u88 u89 u90 u91 u92 u93 u94 u95 u96 u97 u98 u99 u100 u101 u102 u103 u104 u105 u106 u107 u108 u109 u110 u111 u112 u113 u114 u115 u116 u117 u118 u119 u120 u121 u122 u123 u124 u125 u126 u127 u128 u129 u130 u131 u132 u133 u134 u135 u136 u137 u138 u139 u140 u141 u142 u143 u144 u145 u146 u147 u148 u149 u150 u151 u152 u153 u154 u155 u156 u157 : Value)
 (hJ : ∀ (s_ : Value × Value × Value × Value × Nat × Nat) (w' : World), (w'.cell? ⟨gb, 0, none⟩ = some (.int .i64 na) ∧ w'.cell? ⟨gb, 1, none⟩ = some (.slice A1 la.length c1) ∧ w'.cell? ⟨gb, 2, none⟩ = some (.slice A2 ma.length c2) ∧ w'.cell? ad = some (.int .i64 nb) ∧ w'.cell? ⟨ad.block, ad.off + 1, none⟩ = some (.slice A3 lb.length c3) ∧ w'.cell? ⟨ad.block, ad.off + 2, none⟩ = some (.slice A4 mb.length c4)) ∧ (Kd.R k88 88 w' w.heap.size (fun k_ => some k_ ≠ (s_.2.2.1 : Value).ownBlock) s_.1 t353) ∧ (Kd.R k47 47 w' w.heap.size (fun k_ => some k_ ≠ (s_.2.2.2.1 : Value).ownBlock) s_.2.1 t356) ∧ (Kd.R k88 88 w' w.heap.size (fun k_ => some k_ ≠ (s_.1 : Value).ownBlock) s_.2.2.1 t361) ∧ (Kd.R k47 47 w' w.heap.size (fun k_ => some k_ ≠ (s_.2.1 : Value).ownBlock) s_.2.2.2.1 t364) ∧ (w'.heap[gb]? = some (.cells #[.int .i64 na, .slice A1 la.length c1, .slice A2 ma.length c2] 27 (0, 0))) ∧ (w'.heap[s_.2.2.2.2.1]? = some (.cells #[.int .i64 0, .slice none 0 0, .slice none 0 0] 27 (0, 0))) ∧ (w'.heap[s_.2.2.2.2.2]? = some (.cells #[.int .i64 0, .slice none 0 0, .slice none 0 0] 27 (0, 0))) ∧ (w.heap.size ≤ s_.2.2.2.2.1) ∧ (w.heap.size ≤ s_.2.2.2.2.1) ∧ (gb ≠ s_.2.2.2.2.1) ∧ (s_.2.2.2.2.1 ≠ gb) ∧ (s_.2.2.2.2.2 ≠ s_.2.2.2.2.1) ∧ (s_.2.2.2.2.1 ≠ s_.2.2.2.2.2) ∧ (w.heap.size ≤ s_.2.2.2.2.2) ∧ (w.heap.size ≤ s_.2.2.2.2.2) ∧ (gb ≠ s_.2.2.2.2.2) ∧ (s_.2.2.2.2.2 ≠ gb) ∧ (Below w.heap.size w w') → wpAnyLast Try.prog Region.Mode.any ops Q (fun w' => w'.cell? ⟨gb, 0, none⟩ = some (.int .i64 na) ∧ w'.cell? ⟨gb, 1, none⟩ = some (.slice A1 la.length c1) ∧ w'.cell? ⟨gb, 2, none⟩ = some (.slice A2 ma.length c2) ∧ w'.cell? ad = some (.int .i64 nb) ∧ w'.cell? ⟨ad.block, ad.off + 1, none⟩ = some (.slice A3 lb.length c3) ∧ w'.cell? ⟨ad.block, ad.off + 2, none⟩ = some (.slice A4 mb.length c4)) [] 2 #[true, true, true, true, true, true, true, true, false, false] (putAll { tmps := List.toArray (u0 :: u1 :: u2 :: u3 :: u4 :: u5 :: u6 :: u7 :: u8 :: u9 :: u10 :: u11 :: u12 :: u13 :: u14 :: u15 :: u16 :: u17 :: u18 :: u19 :: u20 :: u21 :: u22 :: u23 :: u24 :: u25 :: u26 :: u27 :: u28 :: u29 :: u30 :: u31 :: u32 :: (.agg #[.int .i64 na, .slice A1 la.length c1, .slice A2 ma.length c2]) :: u34 :: u35 :: u36 :: (.agg #[.int .i64 nb, .slice A3 lb.length c3, .slice A4 mb.length c4]) :: u38 :: u39 :: u40 :: u41 :: u42 :: u43 :: u44 :: u45 :: u46 :: u47 :: u48 :: u49 :: u50 :: u51 :: u52 :: u53 :: u54 :: u55 :: u56 :: u57 :: u58 :: u59 :: u60 :: u61 :: u62 :: u63 :: u64 :: u65 :: u66 :: u67 :: u68 :: u69 :: u70 :: u71 :: u72 :: u73 :: u74 :: u75 :: u76 :: u77 :: u78 :: u79 :: u80 :: u81 :: u82 :: u83 :: u84 :: u85 :: u86 :: u87 :: u88 :: u89 :: u90 :: u91 :: u92 :: u93 :: u94 :: u95 :: u96 :: u97 :: u98 :: u99 :: u100 :: u101 :: u102 :: u103 :: u104 :: u105 :: u106 :: u107 :: u108 :: u109 :: u110 :: u111 :: u112 :: u113 :: u114 :: u115 :: u116 :: u117 :: u118 :: u119 :: u120 :: u121 :: u122 :: u123 :: u124 :: u125 :: u126 :: u127 :: u128 :: u129 :: u130 :: u131 :: u132 :: u133 :: u134 :: u135 :: u136 :: u137 :: u138 :: u139 :: u140 :: u141 :: u142 :: u143 :: u144 :: u145 :: u146 :: u147 :: u148 :: u149 :: u150 :: u151 :: u152 :: u153 :: u154 :: u155 :: u156 :: u157 :: []), defers := [] } [(34, .agg #[.int .i64 t352, s_.1, s_.2.1]), (38, .agg #[.int .i64 t360, s_.2.2.1, s_.2.2.2.1]), (5, .pointer (some ⟨s_.2.2.2.2.1, 0, none⟩)), (6, .pointer (some ⟨s_.2.2.2.2.2, 0, none⟩))]) w') :
 wpAnyLast Try.prog Region.Mode.any ops Q (fun w' => w'.cell? ⟨gb, 0, none⟩ = some (.int .i64 na) ∧ w'.cell? ⟨gb, 1, none⟩ = some (.slice A1 la.length c1) ∧ w'.cell? ⟨gb, 2, none⟩ = some (.slice A2 ma.length c2) ∧ w'.cell? ad = some (.int .i64 nb) ∧ w'.cell? ⟨ad.block, ad.off + 1, none⟩ = some (.slice A3 lb.length c3) ∧ w'.cell? ⟨ad.block, ad.off + 2, none⟩ = some (.slice A4 mb.length c4)) [] 6 #[true, false, true, true, true, false, false, false, false, false] { tmps := List.toArray (u0 :: u1 :: u2 :: u3 :: u4 :: u5 :: u6 :: u7 :: u8 :: u9 :: u10 :: u11 :: u12 :: u13 :: u14 :: u15 :: u16 :: u17 :: u18 :: u19 :: u20 :: u21 :: u22 :: u23 :: u24 :: u25 :: u26 :: u27 :: u28 :: u29 :: u30 :: u31 :: u32 :: (.agg #[.int .i64 na, .slice A1 la.length c1, .slice A2 ma.length c2]) :: u34 :: u35 :: u36 :: (.agg #[.int .i64 nb, .slice A3 lb.length c3, .slice A4 mb.length c4]) :: u38 :: u39 :: u40 :: u41 :: u42 :: u43 :: u44 :: u45 :: u46 :: u47 :: u48 :: u49 :: u50 :: u51 :: u52 :: u53 :: u54 :: u55 :: u56 :: u57 :: u58 :: u59 :: u60 :: u61 :: u62 :: u63 :: u64 :: u65 :: u66 :: u67 :: u68 :: u69 :: u70 :: u71 :: u72 :: u73 :: u74 :: u75 :: u76 :: u77 :: u78 :: u79 :: u80 :: u81 :: u82 :: u83 :: u84 :: u85 :: u86 :: u87 :: u88 :: u89 :: u90 :: u91 :: u92 :: u93 :: u94 :: u95 :: u96 :: u97 :: u98 :: u99 :: u100 :: u101 :: u102 :: u103 :: u104 :: u105 :: u106 :: u107 :: u108 :: u109 :: u110 :: u111 :: u112 :: u113 :: u114 :: u115 :: u116 :: u117 :: u118 :: u119 :: u120 :: u121 :: u122 :: u123 :: u124 :: u125 :: u126 :: u127 :: u128 :: u129 :: u130 :: u131 :: u132 :: u133 :: u134 :: u135 :: u136 :: u137 :: u138 :: u139 :: u140 :: u141 :: u142 :: u143 :: u144 :: u145 :: u146 :: u147 :: u148 :: u149 :: u150 :: u151 :: u152 :: u153 :: u154 :: u155 :: u156 :: u157 :: []), defers := [] } wb := by
 subst hops
 have hop6 : ((opsOf Try.f5 7)[6]'(by decide)).op = Op.alloc 27 := by kernel_rfl
 have hop7 : ((opsOf Try.f5 7)[7]'(by decide)).op = Op.alloc 27 := by kernel_rfl
 have HC1 := Lib.hid (fun W (hb : Below wb.heap.size wb W) => mainsheetlaw18_short.calls na A1 c1 la A2 c2 ma t352 t353 t356 W (Kd.C_below hr1 (HB.trans (hb.mono HB.size))) hc1 (Kd.C_below hr2 (HB.trans (hb.mono HB.size))) hc2 h1)
 have HC5 := Lib.hid (fun W (hb : Below wb.heap.size wb W) => mainsheetlaw18_short.calls nb A3 c3 lb A4 c4 mb t360 t361 t364 W (Kd.C_below hr3 (HB.trans (hb.mono HB.size))) hc3 (Kd.C_below hr4 (HB.trans (hb.mono HB.size))) hc4 h5)
 have HS := Lib.hid (show ∀ w', Below wb.heap.size wb w' → w'.cell? ⟨gb, 0, none⟩ = some (.int .i64 na) ∧ w'.cell? ⟨gb, 1, none⟩ = some (.slice A1 la.length c1) ∧ w'.cell? ⟨gb, 2, none⟩ = some (.slice A2 ma.length c2) ∧ w'.cell? ad = some (.int .i64 nb) ∧ w'.cell? ⟨ad.block, ad.off + 1, none⟩ = some (.slice A3 lb.length c3) ∧ w'.cell? ⟨ad.block, ad.off + 2, none⟩ = some (.slice A4 mb.length c4) from fun w' hb => by
  have h := blk_below BK hb
  have hh := HB.trans (hb.mono HB.size)
  exact ⟨(blk_cell h 0).trans rfl, (blk_cell h 1).trans rfl, (blk_cell h 2).trans rfl, (hh.cell (World.block_lt_of_cell? w _ hw0)).trans hw0, (hh.cell (World.block_lt_of_cell? w _ hw1)).trans hw1, (hh.cell (World.block_lt_of_cell? w _ hw2)).trans hw2⟩)
 have HJ := Lib.hid hJ
 have HBW := Lib.hid HB
 have HBK := Lib.hid BK
 have hgb := blk_lt BK
 have hsz := HB.size
 have b0 : Below wb.heap.size wb wb := Below.refl _ _
 clear hJ hr1 hr2 hr3 hr4 h1 h5 hw0 hw1 hw2 HB BK
 refine three_ (i := 1) (j := 6) (k := 7) (Ni := some 34) (Nj := some 5) (Nk := some 6) #[true, true, true, true, true, false, false, false, false, false] #[true, false, true, true, true, false, true, false, false, false] #[true, false, true, true, true, false, false, true, false, false] rfl rfl rfl rfl rfl rfl (by kernel_rfl) (by decide) (by decide) (by decide) (fun K hK => ?_) (fun K hK => ?_) (fun K hK => ?_)
 · skip
   refine goes_ Try.func8 (by kernel_rfl) rfl #[.agg #[.int .i64 na, .slice A1 la.length c1, .slice A2 ma.length c2]] (by rfl) rfl rfl M_ ?_
   refine (HC1.out wb b0).mono ?_
   rintro e W1 ⟨v1, x1, rfl, r1, q1, hb1⟩
   refine ⟨_, rfl, ?_⟩
   have b1 := below_step b0 hb1
   have s1 := hb1.size
   refine hK.out _ _ (HS.out _ b1) (fun hHeld => ?_)
   clear hK K hHeld
   refine nm_ 34 ?_
   refine three_ (i := 5) (j := 6) (k := 7) (Ni := some 38) (Nj := some 5) (Nk := some 6) #[true, true, true, true, true, true, false, false, false, false] #[true, true, true, true, true, false, true, false, false, false] #[true, true, true, true, true, false, false, true, false, false] rfl rfl rfl rfl rfl rfl (by kernel_rfl) (by decide) (by decide) (by decide) (fun K hK => ?_) (fun K hK => ?_) (fun K hK => ?_)
   · skip
     refine goes_ Try.func8 (by kernel_rfl) rfl #[.agg #[.int .i64 nb, .slice A3 lb.length c3, .slice A4 mb.length c4]] (by rfl) rfl rfl M_ ?_
     refine (HC5.out W1 b1).mono ?_
     rintro e W2 ⟨v5, x5, rfl, r5, q5, hb2⟩
     refine ⟨_, rfl, ?_⟩
     have b2 := below_step b1 hb2
     have s2 := hb2.size
     refine hK.out _ _ (HS.out _ b2) (fun hHeld => ?_)
     clear hK K hHeld
     refine nm_ 38 ?_
     refine two_ (i := 6) (j := 7) (Ni := some 5) (Nj := some 6) #[true, true, true, true, true, true, true, false, false, false] #[true, true, true, true, true, true, false, true, false, false] rfl rfl rfl rfl (by kernel_rfl) (by decide) (by decide) (fun K hK => ?_) (fun K hK => ?_)
     · skip
       obtain ⟨W3, hW3⟩ : ∃ W, W2.alloc (.cells #[.int .i64 0, .slice none 0 0, .slice none 0 0] 27) = W := ⟨_, rfl⟩
       have hb3 : Below W2.heap.size W2 W3 := by rw [← hW3]; exact (Below.refl _ _).alloc (Nat.le_refl _) _
       have k6 : W3.heap[W2.heap.size]? = some (.cells #[.int .i64 0, .slice none 0 0, .slice none 0 0] 27 (0, 0)) := by rw [← hW3]; exact blk_new _ _
       have g6 : W3.heap.size = W2.heap.size + 1 := by rw [← hW3]; simp
       refine value_ (v := .pointer (some ⟨W2.heap.size, 0, none⟩)) (w1 := W3) (by rfl) rfl (by rw [← hW3]; unfold execOp; rw [hop6]; go_simp; try rfl) ?_
       clear hW3
       have b3 := below_step b2 hb3
       have s3 := hb3.size
       refine hK.out _ _ (HS.out _ b3) (fun hHeld => ?_)
       clear hK K hHeld
       refine nm_ 5 ?_
       refine ok1_ 7 6 rfl rfl (fun K hK => ?_)
       obtain ⟨W4, hW4⟩ : ∃ W, W3.alloc (.cells #[.int .i64 0, .slice none 0 0, .slice none 0 0] 27) = W := ⟨_, rfl⟩
       have hb4 : Below W3.heap.size W3 W4 := by rw [← hW4]; exact (Below.refl _ _).alloc (Nat.le_refl _) _
       have k7 : W4.heap[W3.heap.size]? = some (.cells #[.int .i64 0, .slice none 0 0, .slice none 0 0] 27 (0, 0)) := by rw [← hW4]; exact blk_new _ _
       have g7 : W4.heap.size = W3.heap.size + 1 := by rw [← hW4]; simp
       refine value_ (v := .pointer (some ⟨W3.heap.size, 0, none⟩)) (w1 := W4) (by rfl) rfl (by rw [← hW4]; unfold execOp; rw [hop7]; go_simp; try rfl) ?_
       clear hW4
       have b4 := below_step b3 hb4
       have s4 := hb4.size
       refine hK.out _ _ (HS.out _ b4) (fun hHeld => ?_)
       clear hK K hHeld
       refine nm_ 6 ?_
       have hww := HBW.out.trans (b4.mono hsz)
       have kg := blk_below HBK.out b4
       have y0 := Kd.R_lower (Kd.R_below (apart_old r1 r5 (by omega)) (below_step (below_step (below_step (Below.refl _ W1) hb2) hb3) hb4)) (show w.heap.size ≤ wb.heap.size by omega)
       have y1 := Kd.R_lower (Kd.R_below (apart_old q1 q5 (by omega)) (below_step (below_step (below_step (Below.refl _ W1) hb2) hb3) hb4)) (show w.heap.size ≤ wb.heap.size by omega)
       have y2 := Kd.R_lower (Kd.R_below (apart_new r1 r5 (by omega)) (below_step (below_step (Below.refl _ W2) hb3) hb4)) (show w.heap.size ≤ W1.heap.size by omega)
       have y3 := Kd.R_lower (Kd.R_below (apart_new q1 q5 (by omega)) (below_step (below_step (Below.refl _ W2) hb3) hb4)) (show w.heap.size ≤ W1.heap.size by omega)
       have z6 : w.heap.size ≤ W2.heap.size := by omega
       have z7 : w.heap.size ≤ W3.heap.size := by omega
       have z8 : gb ≠ W2.heap.size := by omega
       have z9 : gb ≠ W3.heap.size := by omega
       have z10 : W2.heap.size ≠ W3.heap.size := by omega
       exact norm_ Pa_ (HJ.out (v1, x1, v5, x5, W2.heap.size, W3.heap.size) _ ⟨HS.out _ b4, y0, y1, y2, y3, kg, blk_below k6 (below_step (Below.refl _ W3) hb4), blk_below k7 (Below.refl _ W4), z6, z6, z8, Ne.symm z8, Ne.symm z10, z10, z7, z7, z9, Ne.symm z9, hww⟩)
     · skip
       obtain ⟨W3, hW3⟩ : ∃ W, W2.alloc (.cells #[.int .i64 0, .slice none 0 0, .slice none 0 0] 27) = W := ⟨_, rfl⟩
       have hb3 : Below W2.heap.size W2 W3 := by rw [← hW3]; exact (Below.refl _ _).alloc (Nat.le_refl _) _
       have k7 : W3.heap[W2.heap.size]? = some (.cells #[.int .i64 0, .slice none 0 0, .slice none 0 0] 27 (0, 0)) := by rw [← hW3]; exact blk_new _ _
       have g7 : W3.heap.size = W2.heap.size + 1 := by rw [← hW3]; simp
       refine value_ (v := .pointer (some ⟨W2.heap.size, 0, none⟩)) (w1 := W3) (by rfl) rfl (by rw [← hW3]; unfold execOp; rw [hop7]; go_simp; try rfl) ?_
       clear hW3
       have b3 := below_step b2 hb3
       have s3 := hb3.size
       refine hK.out _ _ (HS.out _ b3) (fun hHeld => ?_)
       clear hK K hHeld
       refine nm_ 6 ?_
       refine ok1_ 6 5 rfl rfl (fun K hK => ?_)
       obtain ⟨W4, hW4⟩ : ∃ W, W3.alloc (.cells #[.int .i64 0, .slice none 0 0, .slice none 0 0] 27) = W := ⟨_, rfl⟩
       have hb4 : Below W3.heap.size W3 W4 := by rw [← hW4]; exact (Below.refl _ _).alloc (Nat.le_refl _) _
       have k6 : W4.heap[W3.heap.size]? = some (.cells #[.int .i64 0, .slice none 0 0, .slice none 0 0] 27 (0, 0)) := by rw [← hW4]; exact blk_new _ _
       have g6 : W4.heap.size = W3.heap.size + 1 := by rw [← hW4]; simp
       refine value_ (v := .pointer (some ⟨W3.heap.size, 0, none⟩)) (w1 := W4) (by rfl) rfl (by rw [← hW4]; unfold execOp; rw [hop6]; go_simp; try rfl) ?_
       clear hW4
       have b4 := below_step b3 hb4
       have s4 := hb4.size
       refine hK.out _ _ (HS.out _ b4) (fun hHeld => ?_)
       clear hK K hHeld
       refine nm_ 5 ?_
       have hww := HBW.out.trans (b4.mono hsz)
       have kg := blk_below HBK.out b4
       have y0 := Kd.R_lower (Kd.R_below (apart_old r1 r5 (by omega)) (below_step (below_step (below_step (Below.refl _ W1) hb2) hb3) hb4)) (show w.heap.size ≤ wb.heap.size by omega)
       have y1 := Kd.R_lower (Kd.R_below (apart_old q1 q5 (by omega)) (below_step (below_step (below_step (Below.refl _ W1) hb2) hb3) hb4)) (show w.heap.size ≤ wb.heap.size by omega)
       have y2 := Kd.R_lower (Kd.R_below (apart_new r1 r5 (by omega)) (below_step (below_step (Below.refl _ W2) hb3) hb4)) (show w.heap.size ≤ W1.heap.size by omega)
       have y3 := Kd.R_lower (Kd.R_below (apart_new q1 q5 (by omega)) (below_step (below_step (Below.refl _ W2) hb3) hb4)) (show w.heap.size ≤ W1.heap.size by omega)
       have z6 : w.heap.size ≤ W3.heap.size := by omega
       have z7 : w.heap.size ≤ W2.heap.size := by omega
       have z8 : gb ≠ W3.heap.size := by omega
       have z9 : gb ≠ W2.heap.size := by omega
       have z10 : W3.heap.size ≠ W2.heap.size := by omega
       exact norm_ Pa_ (HJ.out (v1, x1, v5, x5, W3.heap.size, W2.heap.size) _ ⟨HS.out _ b4, y0, y1, y2, y3, kg, blk_below k6 (Below.refl _ W4), blk_below k7 (below_step (Below.refl _ W3) hb4), z6, z6, z8, Ne.symm z8, Ne.symm z10, z10, z7, z7, z9, Ne.symm z9, hww⟩)
   · skip
     obtain ⟨W2, hW2⟩ : ∃ W, W1.alloc (.cells #[.int .i64 0, .slice none 0 0, .slice none 0 0] 27) = W := ⟨_, rfl⟩
     have hb2 : Below W1.heap.size W1 W2 := by rw [← hW2]; exact (Below.refl _ _).alloc (Nat.le_refl _) _
     have k6 : W2.heap[W1.heap.size]? = some (.cells #[.int .i64 0, .slice none 0 0, .slice none 0 0] 27 (0, 0)) := by rw [← hW2]; exact blk_new _ _
     have g6 : W2.heap.size = W1.heap.size + 1 := by rw [← hW2]; simp
     refine value_ (v := .pointer (some ⟨W1.heap.size, 0, none⟩)) (w1 := W2) (by rfl) rfl (by rw [← hW2]; unfold execOp; rw [hop6]; go_simp; try rfl) ?_
     clear hW2
     have b2 := below_step b1 hb2
     have s2 := hb2.size
     refine hK.out _ _ (HS.out _ b2) (fun hHeld => ?_)
     clear hK K hHeld
     refine nm_ 5 ?_
     refine two_ (i := 5) (j := 7) (Ni := some 38) (Nj := some 6) #[true, true, true, true, true, true, true, false, false, false] #[true, true, true, true, true, false, true, true, false, false] rfl rfl rfl rfl (by kernel_rfl) (by decide) (by decide) (fun K hK => ?_) (fun K hK => ?_)
     · skip
       refine goes_ Try.func8 (by kernel_rfl) rfl #[.agg #[.int .i64 nb, .slice A3 lb.length c3, .slice A4 mb.length c4]] (by rfl) rfl rfl M_ ?_
       refine (HC5.out W2 b2).mono ?_
       rintro e W3 ⟨v5, x5, rfl, r5, q5, hb3⟩
       refine ⟨_, rfl, ?_⟩
       have b3 := below_step b2 hb3
       have s3 := hb3.size
       refine hK.out _ _ (HS.out _ b3) (fun hHeld => ?_)
       clear hK K hHeld
       refine nm_ 38 ?_
       refine ok1_ 7 6 rfl rfl (fun K hK => ?_)
       obtain ⟨W4, hW4⟩ : ∃ W, W3.alloc (.cells #[.int .i64 0, .slice none 0 0, .slice none 0 0] 27) = W := ⟨_, rfl⟩
       have hb4 : Below W3.heap.size W3 W4 := by rw [← hW4]; exact (Below.refl _ _).alloc (Nat.le_refl _) _
       have k7 : W4.heap[W3.heap.size]? = some (.cells #[.int .i64 0, .slice none 0 0, .slice none 0 0] 27 (0, 0)) := by rw [← hW4]; exact blk_new _ _
       have g7 : W4.heap.size = W3.heap.size + 1 := by rw [← hW4]; simp
       refine value_ (v := .pointer (some ⟨W3.heap.size, 0, none⟩)) (w1 := W4) (by rfl) rfl (by rw [← hW4]; unfold execOp; rw [hop7]; go_simp; try rfl) ?_
       clear hW4
       have b4 := below_step b3 hb4
       have s4 := hb4.size
       refine hK.out _ _ (HS.out _ b4) (fun hHeld => ?_)
       clear hK K hHeld
       refine nm_ 6 ?_
       have hww := HBW.out.trans (b4.mono hsz)
       have kg := blk_below HBK.out b4
       have y0 := Kd.R_lower (Kd.R_below (apart_old r1 r5 (by omega)) (below_step (below_step (below_step (Below.refl _ W1) hb2) hb3) hb4)) (show w.heap.size ≤ wb.heap.size by omega)
       have y1 := Kd.R_lower (Kd.R_below (apart_old q1 q5 (by omega)) (below_step (below_step (below_step (Below.refl _ W1) hb2) hb3) hb4)) (show w.heap.size ≤ wb.heap.size by omega)
       have y2 := Kd.R_lower (Kd.R_below (apart_new r1 r5 (by omega)) (below_step (Below.refl _ W3) hb4)) (show w.heap.size ≤ W2.heap.size by omega)
       have y3 := Kd.R_lower (Kd.R_below (apart_new q1 q5 (by omega)) (below_step (Below.refl _ W3) hb4)) (show w.heap.size ≤ W2.heap.size by omega)
       have z6 : w.heap.size ≤ W1.heap.size := by omega
       have z7 : w.heap.size ≤ W3.heap.size := by omega
       have z8 : gb ≠ W1.heap.size := by omega
       have z9 : gb ≠ W3.heap.size := by omega
       have z10 : W1.heap.size ≠ W3.heap.size := by omega
       exact norm_ Pa_ (HJ.out (v1, x1, v5, x5, W1.heap.size, W3.heap.size) _ ⟨HS.out _ b4, y0, y1, y2, y3, kg, blk_below k6 (below_step (below_step (Below.refl _ W2) hb3) hb4), blk_below k7 (Below.refl _ W4), z6, z6, z8, Ne.symm z8, Ne.symm z10, z10, z7, z7, z9, Ne.symm z9, hww⟩)
     · skip
       obtain ⟨W3, hW3⟩ : ∃ W, W2.alloc (.cells #[.int .i64 0, .slice none 0 0, .slice none 0 0] 27) = W := ⟨_, rfl⟩
       have hb3 : Below W2.heap.size W2 W3 := by rw [← hW3]; exact (Below.refl _ _).alloc (Nat.le_refl _) _
       have k7 : W3.heap[W2.heap.size]? = some (.cells #[.int .i64 0, .slice none 0 0, .slice none 0 0] 27 (0, 0)) := by rw [← hW3]; exact blk_new _ _
       have g7 : W3.heap.size = W2.heap.size + 1 := by rw [← hW3]; simp
       refine value_ (v := .pointer (some ⟨W2.heap.size, 0, none⟩)) (w1 := W3) (by rfl) rfl (by rw [← hW3]; unfold execOp; rw [hop7]; go_simp; try rfl) ?_
       clear hW3
       have b3 := below_step b2 hb3
       have s3 := hb3.size
       refine hK.out _ _ (HS.out _ b3) (fun hHeld => ?_)
       clear hK K hHeld
       refine nm_ 6 ?_
       refine ok1_ 5 38 rfl rfl (fun K hK => ?_)
       refine goes_ Try.func8 (by kernel_rfl) rfl #[.agg #[.int .i64 nb, .slice A3 lb.length c3, .slice A4 mb.length c4]] (by rfl) rfl rfl M_ ?_
       refine (HC5.out W3 b3).mono ?_
       rintro e W4 ⟨v5, x5, rfl, r5, q5, hb4⟩
       refine ⟨_, rfl, ?_⟩
       have b4 := below_step b3 hb4
       have s4 := hb4.size
       refine hK.out _ _ (HS.out _ b4) (fun hHeld => ?_)
       clear hK K hHeld
       refine nm_ 38 ?_
       have hww := HBW.out.trans (b4.mono hsz)
       have kg := blk_below HBK.out b4
       have y0 := Kd.R_lower (Kd.R_below (apart_old r1 r5 (by omega)) (below_step (below_step (below_step (Below.refl _ W1) hb2) hb3) hb4)) (show w.heap.size ≤ wb.heap.size by omega)
       have y1 := Kd.R_lower (Kd.R_below (apart_old q1 q5 (by omega)) (below_step (below_step (below_step (Below.refl _ W1) hb2) hb3) hb4)) (show w.heap.size ≤ wb.heap.size by omega)
       have y2 := Kd.R_lower (Kd.R_below (apart_new r1 r5 (by omega)) (Below.refl _ W4)) (show w.heap.size ≤ W3.heap.size by omega)
       have y3 := Kd.R_lower (Kd.R_below (apart_new q1 q5 (by omega)) (Below.refl _ W4)) (show w.heap.size ≤ W3.heap.size by omega)
       have z6 : w.heap.size ≤ W1.heap.size := by omega
       have z7 : w.heap.size ≤ W2.heap.size := by omega
       have z8 : gb ≠ W1.heap.size := by omega
       have z9 : gb ≠ W2.heap.size := by omega
       have z10 : W1.heap.size ≠ W2.heap.size := by omega
       exact norm_ Pa_ (HJ.out (v1, x1, v5, x5, W1.heap.size, W2.heap.size) _ ⟨HS.out _ b4, y0, y1, y2, y3, kg, blk_below k6 (below_step (below_step (Below.refl _ W2) hb3) hb4), blk_below k7 (below_step (Below.refl _ W3) hb4), z6, z6, z8, Ne.symm z8, Ne.symm z10, z10, z7, z7, z9, Ne.symm z9, hww⟩)
   · skip
     obtain ⟨W2, hW2⟩ : ∃ W, W1.alloc (.cells #[.int .i64 0, .slice none 0 0, .slice none 0 0] 27) = W := ⟨_, rfl⟩
     have hb2 : Below W1.heap.size W1 W2 := by rw [← hW2]; exact (Below.refl _ _).alloc (Nat.le_refl _) _
     have k7 : W2.heap[W1.heap.size]? = some (.cells #[.int .i64 0, .slice none 0 0, .slice none 0 0] 27 (0, 0)) := by rw [← hW2]; exact blk_new _ _
     have g7 : W2.heap.size = W1.heap.size + 1 := by rw [← hW2]; simp
     refine value_ (v := .pointer (some ⟨W1.heap.size, 0, none⟩)) (w1 := W2) (by rfl) rfl (by rw [← hW2]; unfold execOp; rw [hop7]; go_simp; try rfl) ?_
     clear hW2
     have b2 := below_step b1 hb2
     have s2 := hb2.size
     refine hK.out _ _ (HS.out _ b2) (fun hHeld => ?_)
     clear hK K hHeld
     refine nm_ 6 ?_
     refine two_ (i := 5) (j := 6) (Ni := some 38) (Nj := some 5) #[true, true, true, true, true, true, false, true, false, false] #[true, true, true, true, true, false, true, true, false, false] rfl rfl rfl rfl (by kernel_rfl) (by decide) (by decide) (fun K hK => ?_) (fun K hK => ?_)
     · skip
       refine goes_ Try.func8 (by kernel_rfl) rfl #[.agg #[.int .i64 nb, .slice A3 lb.length c3, .slice A4 mb.length c4]] (by rfl) rfl rfl M_ ?_
       refine (HC5.out W2 b2).mono ?_
       rintro e W3 ⟨v5, x5, rfl, r5, q5, hb3⟩
       refine ⟨_, rfl, ?_⟩
       have b3 := below_step b2 hb3
       have s3 := hb3.size
       refine hK.out _ _ (HS.out _ b3) (fun hHeld => ?_)
       clear hK K hHeld
       refine nm_ 38 ?_
       refine ok1_ 6 5 rfl rfl (fun K hK => ?_)
       obtain ⟨W4, hW4⟩ : ∃ W, W3.alloc (.cells #[.int .i64 0, .slice none 0 0, .slice none 0 0] 27) = W := ⟨_, rfl⟩
       have hb4 : Below W3.heap.size W3 W4 := by rw [← hW4]; exact (Below.refl _ _).alloc (Nat.le_refl _) _
       have k6 : W4.heap[W3.heap.size]? = some (.cells #[.int .i64 0, .slice none 0 0, .slice none 0 0] 27 (0, 0)) := by rw [← hW4]; exact blk_new _ _
       have g6 : W4.heap.size = W3.heap.size + 1 := by rw [← hW4]; simp
       refine value_ (v := .pointer (some ⟨W3.heap.size, 0, none⟩)) (w1 := W4) (by rfl) rfl (by rw [← hW4]; unfold execOp; rw [hop6]; go_simp; try rfl) ?_
       clear hW4
       have b4 := below_step b3 hb4
       have s4 := hb4.size
       refine hK.out _ _ (HS.out _ b4) (fun hHeld => ?_)
       clear hK K hHeld
       refine nm_ 5 ?_
       have hww := HBW.out.trans (b4.mono hsz)
       have kg := blk_below HBK.out b4
       have y0 := Kd.R_lower (Kd.R_below (apart_old r1 r5 (by omega)) (below_step (below_step (below_step (Below.refl _ W1) hb2) hb3) hb4)) (show w.heap.size ≤ wb.heap.size by omega)
       have y1 := Kd.R_lower (Kd.R_below (apart_old q1 q5 (by omega)) (below_step (below_step (below_step (Below.refl _ W1) hb2) hb3) hb4)) (show w.heap.size ≤ wb.heap.size by omega)
       have y2 := Kd.R_lower (Kd.R_below (apart_new r1 r5 (by omega)) (below_step (Below.refl _ W3) hb4)) (show w.heap.size ≤ W2.heap.size by omega)
       have y3 := Kd.R_lower (Kd.R_below (apart_new q1 q5 (by omega)) (below_step (Below.refl _ W3) hb4)) (show w.heap.size ≤ W2.heap.size by omega)
       have z6 : w.heap.size ≤ W3.heap.size := by omega
       have z7 : w.heap.size ≤ W1.heap.size := by omega
       have z8 : gb ≠ W3.heap.size := by omega
       have z9 : gb ≠ W1.heap.size := by omega
       have z10 : W3.heap.size ≠ W1.heap.size := by omega
       exact norm_ Pa_ (HJ.out (v1, x1, v5, x5, W3.heap.size, W1.heap.size) _ ⟨HS.out _ b4, y0, y1, y2, y3, kg, blk_below k6 (Below.refl _ W4), blk_below k7 (below_step (below_step (Below.refl _ W2) hb3) hb4), z6, z6, z8, Ne.symm z8, Ne.symm z10, z10, z7, z7, z9, Ne.symm z9, hww⟩)
     · skip
       obtain ⟨W3, hW3⟩ : ∃ W, W2.alloc (.cells #[.int .i64 0, .slice none 0 0, .slice none 0 0] 27) = W := ⟨_, rfl⟩
       have hb3 : Below W2.heap.size W2 W3 := by rw [← hW3]; exact (Below.refl _ _).alloc (Nat.le_refl _) _
       have k6 : W3.heap[W2.heap.size]? = some (.cells #[.int .i64 0, .slice none 0 0, .slice none 0 0] 27 (0, 0)) := by rw [← hW3]; exact blk_new _ _
       have g6 : W3.heap.size = W2.heap.size + 1 := by rw [← hW3]; simp
       refine value_ (v := .pointer (some ⟨W2.heap.size, 0, none⟩)) (w1 := W3) (by rfl) rfl (by rw [← hW3]; unfold execOp; rw [hop6]; go_simp; try rfl) ?_
       clear hW3
       have b3 := below_step b2 hb3
       have s3 := hb3.size
       refine hK.out _ _ (HS.out _ b3) (fun hHeld => ?_)
       clear hK K hHeld
       refine nm_ 5 ?_
       refine ok1_ 5 38 rfl rfl (fun K hK => ?_)
       refine goes_ Try.func8 (by kernel_rfl) rfl #[.agg #[.int .i64 nb, .slice A3 lb.length c3, .slice A4 mb.length c4]] (by rfl) rfl rfl M_ ?_
       refine (HC5.out W3 b3).mono ?_
       rintro e W4 ⟨v5, x5, rfl, r5, q5, hb4⟩
       refine ⟨_, rfl, ?_⟩
       have b4 := below_step b3 hb4
       have s4 := hb4.size
       refine hK.out _ _ (HS.out _ b4) (fun hHeld => ?_)
       clear hK K hHeld
       refine nm_ 38 ?_
       have hww := HBW.out.trans (b4.mono hsz)
       have kg := blk_below HBK.out b4
       have y0 := Kd.R_lower (Kd.R_below (apart_old r1 r5 (by omega)) (below_step (below_step (below_step (Below.refl _ W1) hb2) hb3) hb4)) (show w.heap.size ≤ wb.heap.size by omega)
       have y1 := Kd.R_lower (Kd.R_below (apart_old q1 q5 (by omega)) (below_step (below_step (below_step (Below.refl _ W1) hb2) hb3) hb4)) (show w.heap.size ≤ wb.heap.size by omega)
       have y2 := Kd.R_lower (Kd.R_below (apart_new r1 r5 (by omega)) (Below.refl _ W4)) (show w.heap.size ≤ W3.heap.size by omega)
       have y3 := Kd.R_lower (Kd.R_below (apart_new q1 q5 (by omega)) (Below.refl _ W4)) (show w.heap.size ≤ W3.heap.size by omega)
       have z6 : w.heap.size ≤ W2.heap.size := by omega
       have z7 : w.heap.size ≤ W1.heap.size := by omega
       have z8 : gb ≠ W2.heap.size := by omega
       have z9 : gb ≠ W1.heap.size := by omega
       have z10 : W2.heap.size ≠ W1.heap.size := by omega
       exact norm_ Pa_ (HJ.out (v1, x1, v5, x5, W2.heap.size, W1.heap.size) _ ⟨HS.out _ b4, y0, y1, y2, y3, kg, blk_below k6 (below_step (Below.refl _ W3) hb4), blk_below k7 (below_step (below_step (Below.refl _ W2) hb3) hb4), z6, z6, z8, Ne.symm z8, Ne.symm z10, z10, z7, z7, z9, Ne.symm z9, hww⟩)
 · skip
   obtain ⟨W1, hW1⟩ : ∃ W, wb.alloc (.cells #[.int .i64 0, .slice none 0 0, .slice none 0 0] 27) = W := ⟨_, rfl⟩
   have hb1 : Below wb.heap.size wb W1 := by rw [← hW1]; exact (Below.refl _ _).alloc (Nat.le_refl _) _
   have k6 : W1.heap[wb.heap.size]? = some (.cells #[.int .i64 0, .slice none 0 0, .slice none 0 0] 27 (0, 0)) := by rw [← hW1]; exact blk_new _ _
   have g6 : W1.heap.size = wb.heap.size + 1 := by rw [← hW1]; simp
   refine value_ (v := .pointer (some ⟨wb.heap.size, 0, none⟩)) (w1 := W1) (by rfl) rfl (by rw [← hW1]; unfold execOp; rw [hop6]; go_simp; try rfl) ?_
   clear hW1
   have b1 := below_step b0 hb1
   have s1 := hb1.size
   refine hK.out _ _ (HS.out _ b1) (fun hHeld => ?_)
   clear hK K hHeld
   refine nm_ 5 ?_
   refine two_ (i := 1) (j := 7) (Ni := some 34) (Nj := some 6) #[true, true, true, true, true, false, true, false, false, false] #[true, false, true, true, true, false, true, true, false, false] rfl rfl rfl rfl (by kernel_rfl) (by decide) (by decide) (fun K hK => ?_) (fun K hK => ?_)
   · skip
     refine goes_ Try.func8 (by kernel_rfl) rfl #[.agg #[.int .i64 na, .slice A1 la.length c1, .slice A2 ma.length c2]] (by rfl) rfl rfl M_ ?_
     refine (HC1.out W1 b1).mono ?_
     rintro e W2 ⟨v1, x1, rfl, r1, q1, hb2⟩
     refine ⟨_, rfl, ?_⟩
     have b2 := below_step b1 hb2
     have s2 := hb2.size
     refine hK.out _ _ (HS.out _ b2) (fun hHeld => ?_)
     clear hK K hHeld
     refine nm_ 34 ?_
     refine two_ (i := 5) (j := 7) (Ni := some 38) (Nj := some 6) #[true, true, true, true, true, true, true, false, false, false] #[true, true, true, true, true, false, true, true, false, false] rfl rfl rfl rfl (by kernel_rfl) (by decide) (by decide) (fun K hK => ?_) (fun K hK => ?_)
     · skip
       refine goes_ Try.func8 (by kernel_rfl) rfl #[.agg #[.int .i64 nb, .slice A3 lb.length c3, .slice A4 mb.length c4]] (by rfl) rfl rfl M_ ?_
       refine (HC5.out W2 b2).mono ?_
       rintro e W3 ⟨v5, x5, rfl, r5, q5, hb3⟩
       refine ⟨_, rfl, ?_⟩
       have b3 := below_step b2 hb3
       have s3 := hb3.size
       refine hK.out _ _ (HS.out _ b3) (fun hHeld => ?_)
       clear hK K hHeld
       refine nm_ 38 ?_
       refine ok1_ 7 6 rfl rfl (fun K hK => ?_)
       obtain ⟨W4, hW4⟩ : ∃ W, W3.alloc (.cells #[.int .i64 0, .slice none 0 0, .slice none 0 0] 27) = W := ⟨_, rfl⟩
       have hb4 : Below W3.heap.size W3 W4 := by rw [← hW4]; exact (Below.refl _ _).alloc (Nat.le_refl _) _
       have k7 : W4.heap[W3.heap.size]? = some (.cells #[.int .i64 0, .slice none 0 0, .slice none 0 0] 27 (0, 0)) := by rw [← hW4]; exact blk_new _ _
       have g7 : W4.heap.size = W3.heap.size + 1 := by rw [← hW4]; simp
       refine value_ (v := .pointer (some ⟨W3.heap.size, 0, none⟩)) (w1 := W4) (by rfl) rfl (by rw [← hW4]; unfold execOp; rw [hop7]; go_simp; try rfl) ?_
       clear hW4
       have b4 := below_step b3 hb4
       have s4 := hb4.size
       refine hK.out _ _ (HS.out _ b4) (fun hHeld => ?_)
       clear hK K hHeld
       refine nm_ 6 ?_
       have hww := HBW.out.trans (b4.mono hsz)
       have kg := blk_below HBK.out b4
       have y0 := Kd.R_lower (Kd.R_below (apart_old r1 r5 (by omega)) (below_step (below_step (Below.refl _ W2) hb3) hb4)) (show w.heap.size ≤ W1.heap.size by omega)
       have y1 := Kd.R_lower (Kd.R_below (apart_old q1 q5 (by omega)) (below_step (below_step (Below.refl _ W2) hb3) hb4)) (show w.heap.size ≤ W1.heap.size by omega)
       have y2 := Kd.R_lower (Kd.R_below (apart_new r1 r5 (by omega)) (below_step (Below.refl _ W3) hb4)) (show w.heap.size ≤ W2.heap.size by omega)
       have y3 := Kd.R_lower (Kd.R_below (apart_new q1 q5 (by omega)) (below_step (Below.refl _ W3) hb4)) (show w.heap.size ≤ W2.heap.size by omega)
       have z6 : w.heap.size ≤ wb.heap.size := by omega
       have z7 : w.heap.size ≤ W3.heap.size := by omega
       have z8 : gb ≠ wb.heap.size := by omega
       have z9 : gb ≠ W3.heap.size := by omega
       have z10 : wb.heap.size ≠ W3.heap.size := by omega
       exact norm_ Pa_ (HJ.out (v1, x1, v5, x5, wb.heap.size, W3.heap.size) _ ⟨HS.out _ b4, y0, y1, y2, y3, kg, blk_below k6 (below_step (below_step (below_step (Below.refl _ W1) hb2) hb3) hb4), blk_below k7 (Below.refl _ W4), z6, z6, z8, Ne.symm z8, Ne.symm z10, z10, z7, z7, z9, Ne.symm z9, hww⟩)
     · skip
       obtain ⟨W3, hW3⟩ : ∃ W, W2.alloc (.cells #[.int .i64 0, .slice none 0 0, .slice none 0 0] 27) = W := ⟨_, rfl⟩
       have hb3 : Below W2.heap.size W2 W3 := by rw [← hW3]; exact (Below.refl _ _).alloc (Nat.le_refl _) _
       have k7 : W3.heap[W2.heap.size]? = some (.cells #[.int .i64 0, .slice none 0 0, .slice none 0 0] 27 (0, 0)) := by rw [← hW3]; exact blk_new _ _
       have g7 : W3.heap.size = W2.heap.size + 1 := by rw [← hW3]; simp
       refine value_ (v := .pointer (some ⟨W2.heap.size, 0, none⟩)) (w1 := W3) (by rfl) rfl (by rw [← hW3]; unfold execOp; rw [hop7]; go_simp; try rfl) ?_
       clear hW3
       have b3 := below_step b2 hb3
       have s3 := hb3.size
       refine hK.out _ _ (HS.out _ b3) (fun hHeld => ?_)
       clear hK K hHeld
       refine nm_ 6 ?_
       refine ok1_ 5 38 rfl rfl (fun K hK => ?_)
       refine goes_ Try.func8 (by kernel_rfl) rfl #[.agg #[.int .i64 nb, .slice A3 lb.length c3, .slice A4 mb.length c4]] (by rfl) rfl rfl M_ ?_
       refine (HC5.out W3 b3).mono ?_
       rintro e W4 ⟨v5, x5, rfl, r5, q5, hb4⟩
       refine ⟨_, rfl, ?_⟩
       have b4 := below_step b3 hb4
       have s4 := hb4.size
       refine hK.out _ _ (HS.out _ b4) (fun hHeld => ?_)
       clear hK K hHeld
       refine nm_ 38 ?_
       have hww := HBW.out.trans (b4.mono hsz)
       have kg := blk_below HBK.out b4
       have y0 := Kd.R_lower (Kd.R_below (apart_old r1 r5 (by omega)) (below_step (below_step (Below.refl _ W2) hb3) hb4)) (show w.heap.size ≤ W1.heap.size by omega)
       have y1 := Kd.R_lower (Kd.R_below (apart_old q1 q5 (by omega)) (below_step (below_step (Below.refl _ W2) hb3) hb4)) (show w.heap.size ≤ W1.heap.size by omega)
       have y2 := Kd.R_lower (Kd.R_below (apart_new r1 r5 (by omega)) (Below.refl _ W4)) (show w.heap.size ≤ W3.heap.size by omega)
       have y3 := Kd.R_lower (Kd.R_below (apart_new q1 q5 (by omega)) (Below.refl _ W4)) (show w.heap.size ≤ W3.heap.size by omega)
       have z6 : w.heap.size ≤ wb.heap.size := by omega
       have z7 : w.heap.size ≤ W2.heap.size := by omega
       have z8 : gb ≠ wb.heap.size := by omega
       have z9 : gb ≠ W2.heap.size := by omega
       have z10 : wb.heap.size ≠ W2.heap.size := by omega
       exact norm_ Pa_ (HJ.out (v1, x1, v5, x5, wb.heap.size, W2.heap.size) _ ⟨HS.out _ b4, y0, y1, y2, y3, kg, blk_below k6 (below_step (below_step (below_step (Below.refl _ W1) hb2) hb3) hb4), blk_below k7 (below_step (Below.refl _ W3) hb4), z6, z6, z8, Ne.symm z8, Ne.symm z10, z10, z7, z7, z9, Ne.symm z9, hww⟩)
   · skip
     obtain ⟨W2, hW2⟩ : ∃ W, W1.alloc (.cells #[.int .i64 0, .slice none 0 0, .slice none 0 0] 27) = W := ⟨_, rfl⟩
     have hb2 : Below W1.heap.size W1 W2 := by rw [← hW2]; exact (Below.refl _ _).alloc (Nat.le_refl _) _
     have k7 : W2.heap[W1.heap.size]? = some (.cells #[.int .i64 0, .slice none 0 0, .slice none 0 0] 27 (0, 0)) := by rw [← hW2]; exact blk_new _ _
     have g7 : W2.heap.size = W1.heap.size + 1 := by rw [← hW2]; simp
     refine value_ (v := .pointer (some ⟨W1.heap.size, 0, none⟩)) (w1 := W2) (by rfl) rfl (by rw [← hW2]; unfold execOp; rw [hop7]; go_simp; try rfl) ?_
     clear hW2
     have b2 := below_step b1 hb2
     have s2 := hb2.size
     refine hK.out _ _ (HS.out _ b2) (fun hHeld => ?_)
     clear hK K hHeld
     refine nm_ 6 ?_
     refine ok1_ 1 34 rfl rfl (fun K hK => ?_)
     refine goes_ Try.func8 (by kernel_rfl) rfl #[.agg #[.int .i64 na, .slice A1 la.length c1, .slice A2 ma.length c2]] (by rfl) rfl rfl M_ ?_
     refine (HC1.out W2 b2).mono ?_
     rintro e W3 ⟨v1, x1, rfl, r1, q1, hb3⟩
     refine ⟨_, rfl, ?_⟩
     have b3 := below_step b2 hb3
     have s3 := hb3.size
     refine hK.out _ _ (HS.out _ b3) (fun hHeld => ?_)
     clear hK K hHeld
     refine nm_ 34 ?_
     refine ok1_ 5 38 rfl rfl (fun K hK => ?_)
     refine goes_ Try.func8 (by kernel_rfl) rfl #[.agg #[.int .i64 nb, .slice A3 lb.length c3, .slice A4 mb.length c4]] (by rfl) rfl rfl M_ ?_
     refine (HC5.out W3 b3).mono ?_
     rintro e W4 ⟨v5, x5, rfl, r5, q5, hb4⟩
     refine ⟨_, rfl, ?_⟩
     have b4 := below_step b3 hb4
     have s4 := hb4.size
     refine hK.out _ _ (HS.out _ b4) (fun hHeld => ?_)
     clear hK K hHeld
     refine nm_ 38 ?_
     have hww := HBW.out.trans (b4.mono hsz)
     have kg := blk_below HBK.out b4
     have y0 := Kd.R_lower (Kd.R_below (apart_old r1 r5 (by omega)) (below_step (Below.refl _ W3) hb4)) (show w.heap.size ≤ W2.heap.size by omega)
     have y1 := Kd.R_lower (Kd.R_below (apart_old q1 q5 (by omega)) (below_step (Below.refl _ W3) hb4)) (show w.heap.size ≤ W2.heap.size by omega)
     have y2 := Kd.R_lower (Kd.R_below (apart_new r1 r5 (by omega)) (Below.refl _ W4)) (show w.heap.size ≤ W3.heap.size by omega)
     have y3 := Kd.R_lower (Kd.R_below (apart_new q1 q5 (by omega)) (Below.refl _ W4)) (show w.heap.size ≤ W3.heap.size by omega)
     have z6 : w.heap.size ≤ wb.heap.size := by omega
     have z7 : w.heap.size ≤ W1.heap.size := by omega
     have z8 : gb ≠ wb.heap.size := by omega
     have z9 : gb ≠ W1.heap.size := by omega
     have z10 : wb.heap.size ≠ W1.heap.size := by omega
     exact norm_ Pa_ (HJ.out (v1, x1, v5, x5, wb.heap.size, W1.heap.size) _ ⟨HS.out _ b4, y0, y1, y2, y3, kg, blk_below k6 (below_step (below_step (below_step (Below.refl _ W1) hb2) hb3) hb4), blk_below k7 (below_step (below_step (Below.refl _ W2) hb3) hb4), z6, z6, z8, Ne.symm z8, Ne.symm z10, z10, z7, z7, z9, Ne.symm z9, hww⟩)
 · skip
   obtain ⟨W1, hW1⟩ : ∃ W, wb.alloc (.cells #[.int .i64 0, .slice none 0 0, .slice none 0 0] 27) = W := ⟨_, rfl⟩
   have hb1 : Below wb.heap.size wb W1 := by rw [← hW1]; exact (Below.refl _ _).alloc (Nat.le_refl _) _
   have k7 : W1.heap[wb.heap.size]? = some (.cells #[.int .i64 0, .slice none 0 0, .slice none 0 0] 27 (0, 0)) := by rw [← hW1]; exact blk_new _ _
   have g7 : W1.heap.size = wb.heap.size + 1 := by rw [← hW1]; simp
   refine value_ (v := .pointer (some ⟨wb.heap.size, 0, none⟩)) (w1 := W1) (by rfl) rfl (by rw [← hW1]; unfold execOp; rw [hop7]; go_simp; try rfl) ?_
   clear hW1
   have b1 := below_step b0 hb1
   have s1 := hb1.size
   refine hK.out _ _ (HS.out _ b1) (fun hHeld => ?_)
   clear hK K hHeld
   refine nm_ 6 ?_
   refine two_ (i := 1) (j := 6) (Ni := some 34) (Nj := some 5) #[true, true, true, true, true, false, false, true, false, false] #[true, false, true, true, true, false, true, true, false, false] rfl rfl rfl rfl (by kernel_rfl) (by decide) (by decide) (fun K hK => ?_) (fun K hK => ?_)
   · skip
     refine goes_ Try.func8 (by kernel_rfl) rfl #[.agg #[.int .i64 na, .slice A1 la.length c1, .slice A2 ma.length c2]] (by rfl) rfl rfl M_ ?_
     refine (HC1.out W1 b1).mono ?_
     rintro e W2 ⟨v1, x1, rfl, r1, q1, hb2⟩
     refine ⟨_, rfl, ?_⟩
     have b2 := below_step b1 hb2
     have s2 := hb2.size
     refine hK.out _ _ (HS.out _ b2) (fun hHeld => ?_)
     clear hK K hHeld
     refine nm_ 34 ?_
     refine two_ (i := 5) (j := 6) (Ni := some 38) (Nj := some 5) #[true, true, true, true, true, true, false, true, false, false] #[true, true, true, true, true, false, true, true, false, false] rfl rfl rfl rfl (by kernel_rfl) (by decide) (by decide) (fun K hK => ?_) (fun K hK => ?_)
     · skip
       refine goes_ Try.func8 (by kernel_rfl) rfl #[.agg #[.int .i64 nb, .slice A3 lb.length c3, .slice A4 mb.length c4]] (by rfl) rfl rfl M_ ?_
       refine (HC5.out W2 b2).mono ?_
       rintro e W3 ⟨v5, x5, rfl, r5, q5, hb3⟩
       refine ⟨_, rfl, ?_⟩
       have b3 := below_step b2 hb3
       have s3 := hb3.size
       refine hK.out _ _ (HS.out _ b3) (fun hHeld => ?_)
       clear hK K hHeld
       refine nm_ 38 ?_
       refine ok1_ 6 5 rfl rfl (fun K hK => ?_)
       obtain ⟨W4, hW4⟩ : ∃ W, W3.alloc (.cells #[.int .i64 0, .slice none 0 0, .slice none 0 0] 27) = W := ⟨_, rfl⟩
       have hb4 : Below W3.heap.size W3 W4 := by rw [← hW4]; exact (Below.refl _ _).alloc (Nat.le_refl _) _
       have k6 : W4.heap[W3.heap.size]? = some (.cells #[.int .i64 0, .slice none 0 0, .slice none 0 0] 27 (0, 0)) := by rw [← hW4]; exact blk_new _ _
       have g6 : W4.heap.size = W3.heap.size + 1 := by rw [← hW4]; simp
       refine value_ (v := .pointer (some ⟨W3.heap.size, 0, none⟩)) (w1 := W4) (by rfl) rfl (by rw [← hW4]; unfold execOp; rw [hop6]; go_simp; try rfl) ?_
       clear hW4
       have b4 := below_step b3 hb4
       have s4 := hb4.size
       refine hK.out _ _ (HS.out _ b4) (fun hHeld => ?_)
       clear hK K hHeld
       refine nm_ 5 ?_
       have hww := HBW.out.trans (b4.mono hsz)
       have kg := blk_below HBK.out b4
       have y0 := Kd.R_lower (Kd.R_below (apart_old r1 r5 (by omega)) (below_step (below_step (Below.refl _ W2) hb3) hb4)) (show w.heap.size ≤ W1.heap.size by omega)
       have y1 := Kd.R_lower (Kd.R_below (apart_old q1 q5 (by omega)) (below_step (below_step (Below.refl _ W2) hb3) hb4)) (show w.heap.size ≤ W1.heap.size by omega)
       have y2 := Kd.R_lower (Kd.R_below (apart_new r1 r5 (by omega)) (below_step (Below.refl _ W3) hb4)) (show w.heap.size ≤ W2.heap.size by omega)
       have y3 := Kd.R_lower (Kd.R_below (apart_new q1 q5 (by omega)) (below_step (Below.refl _ W3) hb4)) (show w.heap.size ≤ W2.heap.size by omega)
       have z6 : w.heap.size ≤ W3.heap.size := by omega
       have z7 : w.heap.size ≤ wb.heap.size := by omega
       have z8 : gb ≠ W3.heap.size := by omega
       have z9 : gb ≠ wb.heap.size := by omega
       have z10 : W3.heap.size ≠ wb.heap.size := by omega
       exact norm_ Pa_ (HJ.out (v1, x1, v5, x5, W3.heap.size, wb.heap.size) _ ⟨HS.out _ b4, y0, y1, y2, y3, kg, blk_below k6 (Below.refl _ W4), blk_below k7 (below_step (below_step (below_step (Below.refl _ W1) hb2) hb3) hb4), z6, z6, z8, Ne.symm z8, Ne.symm z10, z10, z7, z7, z9, Ne.symm z9, hww⟩)
     · skip
       obtain ⟨W3, hW3⟩ : ∃ W, W2.alloc (.cells #[.int .i64 0, .slice none 0 0, .slice none 0 0] 27) = W := ⟨_, rfl⟩
       have hb3 : Below W2.heap.size W2 W3 := by rw [← hW3]; exact (Below.refl _ _).alloc (Nat.le_refl _) _
       have k6 : W3.heap[W2.heap.size]? = some (.cells #[.int .i64 0, .slice none 0 0, .slice none 0 0] 27 (0, 0)) := by rw [← hW3]; exact blk_new _ _
       have g6 : W3.heap.size = W2.heap.size + 1 := by rw [← hW3]; simp
       refine value_ (v := .pointer (some ⟨W2.heap.size, 0, none⟩)) (w1 := W3) (by rfl) rfl (by rw [← hW3]; unfold execOp; rw [hop6]; go_simp; try rfl) ?_
       clear hW3
       have b3 := below_step b2 hb3
       have s3 := hb3.size
       refine hK.out _ _ (HS.out _ b3) (fun hHeld => ?_)
       clear hK K hHeld
       refine nm_ 5 ?_
       refine ok1_ 5 38 rfl rfl (fun K hK => ?_)
       refine goes_ Try.func8 (by kernel_rfl) rfl #[.agg #[.int .i64 nb, .slice A3 lb.length c3, .slice A4 mb.length c4]] (by rfl) rfl rfl M_ ?_
       refine (HC5.out W3 b3).mono ?_
       rintro e W4 ⟨v5, x5, rfl, r5, q5, hb4⟩
       refine ⟨_, rfl, ?_⟩
       have b4 := below_step b3 hb4
       have s4 := hb4.size
       refine hK.out _ _ (HS.out _ b4) (fun hHeld => ?_)
       clear hK K hHeld
       refine nm_ 38 ?_
       have hww := HBW.out.trans (b4.mono hsz)
       have kg := blk_below HBK.out b4
       have y0 := Kd.R_lower (Kd.R_below (apart_old r1 r5 (by omega)) (below_step (below_step (Below.refl _ W2) hb3) hb4)) (show w.heap.size ≤ W1.heap.size by omega)
       have y1 := Kd.R_lower (Kd.R_below (apart_old q1 q5 (by omega)) (below_step (below_step (Below.refl _ W2) hb3) hb4)) (show w.heap.size ≤ W1.heap.size by omega)
       have y2 := Kd.R_lower (Kd.R_below (apart_new r1 r5 (by omega)) (Below.refl _ W4)) (show w.heap.size ≤ W3.heap.size by omega)
       have y3 := Kd.R_lower (Kd.R_below (apart_new q1 q5 (by omega)) (Below.refl _ W4)) (show w.heap.size ≤ W3.heap.size by omega)
       have z6 : w.heap.size ≤ W2.heap.size := by omega
       have z7 : w.heap.size ≤ wb.heap.size := by omega
       have z8 : gb ≠ W2.heap.size := by omega
       have z9 : gb ≠ wb.heap.size := by omega
       have z10 : W2.heap.size ≠ wb.heap.size := by omega
       exact norm_ Pa_ (HJ.out (v1, x1, v5, x5, W2.heap.size, wb.heap.size) _ ⟨HS.out _ b4, y0, y1, y2, y3, kg, blk_below k6 (below_step (Below.refl _ W3) hb4), blk_below k7 (below_step (below_step (below_step (Below.refl _ W1) hb2) hb3) hb4), z6, z6, z8, Ne.symm z8, Ne.symm z10, z10, z7, z7, z9, Ne.symm z9, hww⟩)
   · skip
     obtain ⟨W2, hW2⟩ : ∃ W, W1.alloc (.cells #[.int .i64 0, .slice none 0 0, .slice none 0 0] 27) = W := ⟨_, rfl⟩
     have hb2 : Below W1.heap.size W1 W2 := by rw [← hW2]; exact (Below.refl _ _).alloc (Nat.le_refl _) _
     have k6 : W2.heap[W1.heap.size]? = some (.cells #[.int .i64 0, .slice none 0 0, .slice none 0 0] 27 (0, 0)) := by rw [← hW2]; exact blk_new _ _
     have g6 : W2.heap.size = W1.heap.size + 1 := by rw [← hW2]; simp
     refine value_ (v := .pointer (some ⟨W1.heap.size, 0, none⟩)) (w1 := W2) (by rfl) rfl (by rw [← hW2]; unfold execOp; rw [hop6]; go_simp; try rfl) ?_
     clear hW2
     have b2 := below_step b1 hb2
     have s2 := hb2.size
     refine hK.out _ _ (HS.out _ b2) (fun hHeld => ?_)
     clear hK K hHeld
     refine nm_ 5 ?_
     refine ok1_ 1 34 rfl rfl (fun K hK => ?_)
     refine goes_ Try.func8 (by kernel_rfl) rfl #[.agg #[.int .i64 na, .slice A1 la.length c1, .slice A2 ma.length c2]] (by rfl) rfl rfl M_ ?_
     refine (HC1.out W2 b2).mono ?_
     rintro e W3 ⟨v1, x1, rfl, r1, q1, hb3⟩
     refine ⟨_, rfl, ?_⟩
     have b3 := below_step b2 hb3
     have s3 := hb3.size
     refine hK.out _ _ (HS.out _ b3) (fun hHeld => ?_)
     clear hK K hHeld
     refine nm_ 34 ?_
     refine ok1_ 5 38 rfl rfl (fun K hK => ?_)
     refine goes_ Try.func8 (by kernel_rfl) rfl #[.agg #[.int .i64 nb, .slice A3 lb.length c3, .slice A4 mb.length c4]] (by rfl) rfl rfl M_ ?_
     refine (HC5.out W3 b3).mono ?_
     rintro e W4 ⟨v5, x5, rfl, r5, q5, hb4⟩
     refine ⟨_, rfl, ?_⟩
     have b4 := below_step b3 hb4
     have s4 := hb4.size
     refine hK.out _ _ (HS.out _ b4) (fun hHeld => ?_)
     clear hK K hHeld
     refine nm_ 38 ?_
     have hww := HBW.out.trans (b4.mono hsz)
     have kg := blk_below HBK.out b4
     have y0 := Kd.R_lower (Kd.R_below (apart_old r1 r5 (by omega)) (below_step (Below.refl _ W3) hb4)) (show w.heap.size ≤ W2.heap.size by omega)
     have y1 := Kd.R_lower (Kd.R_below (apart_old q1 q5 (by omega)) (below_step (Below.refl _ W3) hb4)) (show w.heap.size ≤ W2.heap.size by omega)
     have y2 := Kd.R_lower (Kd.R_below (apart_new r1 r5 (by omega)) (Below.refl _ W4)) (show w.heap.size ≤ W3.heap.size by omega)
     have y3 := Kd.R_lower (Kd.R_below (apart_new q1 q5 (by omega)) (Below.refl _ W4)) (show w.heap.size ≤ W3.heap.size by omega)
     have z6 : w.heap.size ≤ W1.heap.size := by omega
     have z7 : w.heap.size ≤ wb.heap.size := by omega
     have z8 : gb ≠ W1.heap.size := by omega
     have z9 : gb ≠ wb.heap.size := by omega
     have z10 : W1.heap.size ≠ wb.heap.size := by omega
     exact norm_ Pa_ (HJ.out (v1, x1, v5, x5, W1.heap.size, wb.heap.size) _ ⟨HS.out _ b4, y0, y1, y2, y3, kg, blk_below k6 (below_step (below_step (Below.refl _ W2) hb3) hb4), blk_below k7 (below_step (below_step (below_step (Below.refl _ W1) hb2) hb3) hb4), z6, z6, z8, Ne.symm z8, Ne.symm z10, z10, z7, z7, z9, Ne.symm z9, hww⟩)
end Go.Proofs.Ytlddekjlmkimnaa.C
