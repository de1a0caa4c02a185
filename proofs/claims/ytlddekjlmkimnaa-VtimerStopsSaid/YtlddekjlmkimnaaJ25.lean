import Derived.Test.YtlddekjlmkimnaaJ23
import Derived.Test.YtlddekjlmkimnaaJ24
import Derived.Test.YtlddekjlmkimnaaJ6
section
namespace Go.Proofs.Ytlddekjlmkimnaa.C
open Go.RowKit Go.Proofs.YtlddekjlmkimnaaW.PrintWords Go.Proofs.YtlddekjlmkimnaaW.PrintLast Go.Proofs.YtlddekjlmkimnaaW.PrintMore
set_option linter.unusedVariables false
set_option linter.unusedSimpArgs false

/-! ### Rows of alarms that rise -/
def RiseA (l : List S47) : Prop := l.Pairwise (fun a b => a.f0 < b.f0)
/-- Rows by rising numbers of virtual CPUs. -/
structure RowsA (l : List S47) : Prop where
  rise : RiseA l
  ok : ∀ x ∈ l, okA x = true
theorem vcpuB_iff {n : Int} : vcpuB n = true ↔ 1 ≤ n ∧ n ≤ 16 := by simp [vcpuB]
theorem okA_vcpu {x : S47} (h : okA x = true) : 1 ≤ x.f0 ∧ x.f0 ≤ 16 := by
  unfold okA at h
  simp only [Bool.and_eq_true] at h
  exact vcpuB_iff.1 h.1
theorem okR_rows : ∀ (l : List S47) (last : Int), okR last l = true → RowsA l ∧ ∀ x ∈ l, last < x.f0
  | [], _, _ => ⟨⟨List.Pairwise.nil, fun _ h => by cases h⟩, fun _ h => by cases h⟩
  | a :: r, last, h => by
    simp only [okR, Bool.and_eq_true, decide_eq_true_eq] at h
    obtain ⟨⟨h1, h2⟩, h3⟩ := okR_rows r a.f0 h.2.2
    refine ⟨⟨List.pairwise_cons.2 ⟨h3, h1⟩, fun x hx => ?_⟩, fun x hx => ?_⟩
    · rcases List.mem_cons.1 hx with rfl | hx
      · exact h.1
      · exact h2 x hx
    · rcases List.mem_cons.1 hx with rfl | hx
      · exact h.2.1
      · have := h3 x hx; omega
theorem rows_okR : ∀ (l : List S47) (last : Int), RowsA l → (∀ x ∈ l, last < x.f0) → okR last l = true
  | [], _, _, _ => rfl
  | a :: r, last, h, hl => by
    have h' := List.pairwise_cons.1 h.rise
    simp only [okR, Bool.and_eq_true, decide_eq_true_eq]
    exact ⟨h.ok a List.mem_cons_self, hl a List.mem_cons_self, rows_okR r a.f0 ⟨h'.2, fun x hx => h.ok x (List.mem_cons_of_mem _ hx)⟩ h'.1⟩
theorem okAl_rows {now : Int} {ts : List S88} {rs : List S47} (h : okAl now ts rs = true) : RowsA rs := by
  unfold okAl at h
  simp only [Bool.and_eq_true] at h
  exact (okR_rows rs 0 h.1).1
theorem okAl_wheel {now : Int} {ts : List S88} {rs : List S47} (h : okAl now ts rs = true) : okW now ts = true := by
  unfold okAl at h
  simp only [Bool.and_eq_true] at h
  exact h.2.1
theorem riseA_at {l : List S47} (h : RiseA l) {i j : Nat} (hi : i < j) (hj : j < l.length) : l[i].f0 < l[j].f0 := List.pairwise_iff_getElem.1 h i j (by omega) hj hi
theorem rowsA_len : ∀ (l : List S47) (lo : Int), RiseA l → (∀ t ∈ l, lo ≤ t.f0 ∧ t.f0 ≤ 16) → lo ≤ 17 → (l.length : Int) ≤ 17 - lo
  | [], lo, _, _, h => by simp; omega
  | a :: r, lo, h, hb, h17 => by
    have h' := List.pairwise_cons.1 h
    have ha := hb a List.mem_cons_self
    have := rowsA_len r (a.f0 + 1) h'.2 (fun t ht => ⟨by have := h'.1 t ht; omega, (hb t (List.mem_cons_of_mem _ ht)).2⟩) (by omega)
    simp only [List.length_cons]; omega
theorem rowsA_len16 {l : List S47} (h : RowsA l) : l.length ≤ 16 := by
  have := rowsA_len l 1 h.rise (fun t ht => okA_vcpu (h.ok t ht)) (by omega)
  omega

theorem dif_lt {a b : Int} (h0 : -10000 ≤ a) (h1 : a ≤ 10000) (h2 : -10000 ≤ b) (h3 : b ≤ 10000) : dif a b = a - b := by unfold dif; exact wrap64_id (by omega) (by omega)
theorem bsGoA_spec {l : List S47} (h : RowsA l) (x : Int) (hx0 : -10000 ≤ x) (hx1 : x ≤ 10000) (n : Nat) : ∀ i j, j - i = n → i ≤ j → j ≤ l.length → (∀ q (hq : q < l.length), q < i → l[q].f0 < x) → (∀ q (hq : q < l.length), j ≤ q → x ≤ l[q].f0) →
    (∀ q (hq : q < l.length), q < bsGoA l x i j → l[q].f0 < x) ∧ (∀ q (hq : q < l.length), bsGoA l x i j ≤ q → x ≤ l[q].f0) := by
  induction n using Nat.strongRecOn with
  | ind n ih =>
    intro i j hn hij hj h1 h2
    by_cases hlt : i < j
    · rw [bsGoA_at _ _ _ _ hlt]
      have hm : i ≤ (i + j) / 2 ∧ (i + j) / 2 < j := by omega
      have hml : (i + j) / 2 < l.length := by omega
      have hg : l.getD ((i + j) / 2) z47 = l[(i + j) / 2] := by simp [List.getD_eq_getElem?_getD, hml]
      have hv := okA_vcpu (h.ok _ (List.getElem_mem hml))
      rw [hg, dif_lt (by omega) (by omega) hx0 hx1]
      split
      · rename_i c
        refine ih (j - ((i + j) / 2 + 1)) (by omega) ((i + j) / 2 + 1) j rfl (by omega) hj (fun q hq hqi => ?_) h2
        rcases Nat.lt_or_ge q ((i + j) / 2) with c1 | c1
        · have := riseA_at h.rise c1 hml; omega
        · obtain rfl : q = (i + j) / 2 := by omega
          omega
      · rename_i c
        refine ih ((i + j) / 2 - i) (by omega) i ((i + j) / 2) rfl (by omega) (by omega) h1 (fun q hq hqi => ?_)
        rcases Nat.lt_or_ge ((i + j) / 2) q with c1 | c1
        · have := riseA_at h.rise c1 hq; omega
        · obtain rfl : q = (i + j) / 2 := by omega
          omega
    · rw [bsGoA_end _ _ _ _ hlt]
      exact ⟨h1, fun q hq hqi => h2 q hq (by omega)⟩
theorem bsA_spec {l : List S47} (h : RowsA l) (x : Int) (hx0 : -10000 ≤ x) (hx1 : x ≤ 10000) : (∀ q (hq : q < l.length), q < bsA l x → l[q].f0 < x) ∧ (∀ q (hq : q < l.length), bsA l x ≤ q → x ≤ l[q].f0) :=
  bsGoA_spec h x hx0 hx1 l.length 0 l.length (by omega) (by omega) (Nat.le_refl _) (fun q _ hq => by omega) (fun q hq hq2 => by omega)
theorem thereA_iff {l : List S47} (h : RowsA l) (x : Int) (hx0 : -10000 ≤ x) (hx1 : x ≤ 10000) : thereA l x = true ↔ ∃ t ∈ l, t.f0 = x := by
  unfold thereA
  simp only [Bool.and_eq_true, decide_eq_true_eq]
  constructor
  · rintro ⟨h1, h2⟩
    rw [show l.getD (bsA l x) z47 = l[bsA l x] by simp [List.getD_eq_getElem?_getD, h1]] at h2
    have hv := okA_vcpu (h.ok _ (List.getElem_mem h1))
    rw [dif_lt (by omega) (by omega) hx0 hx1] at h2
    exact ⟨_, List.getElem_mem h1, by omega⟩
  · rintro ⟨t, ht, rfl⟩
    obtain ⟨i, hi, rfl⟩ := List.getElem_of_mem ht
    obtain ⟨s1, s2⟩ := bsA_spec h l[i].f0 hx0 hx1
    have hle : bsA l l[i].f0 ≤ i := by
      rcases Nat.lt_or_ge i (bsA l l[i].f0) with c | c
      · have := s1 i hi c; omega
      · exact c
    have hbl : bsA l l[i].f0 < l.length := by omega
    refine ⟨hbl, ?_⟩
    rw [show l.getD (bsA l l[i].f0) z47 = l[bsA l l[i].f0] by simp [List.getD_eq_getElem?_getD, hbl]]
    have hv := okA_vcpu (h.ok _ (List.getElem_mem hbl))
    rw [dif_lt (by omega) (by omega) hx0 hx1]
    have h1 := s2 (bsA l l[i].f0) hbl (Nat.le_refl _)
    rcases Nat.lt_or_ge (bsA l l[i].f0) i with c | c
    · have := riseA_at h.rise c hi; omega
    · have e : bsA l l[i].f0 = i := by omega
      simp only [e]; omega
theorem thereA_bs {l : List S47} (h : RowsA l) {x : Int} (hx0 : -10000 ≤ x) (hx1 : x ≤ 10000) (ht : thereA l x = true) : ∃ hb : bsA l x < l.length, l[bsA l x].f0 = x := by
  unfold thereA at ht
  simp only [Bool.and_eq_true, decide_eq_true_eq] at ht
  obtain ⟨h1, h2⟩ := ht
  rw [show l.getD (bsA l x) z47 = l[bsA l x] by simp [List.getD_eq_getElem?_getD, h1]] at h2
  have hv := okA_vcpu (h.ok _ (List.getElem_mem h1))
  rw [dif_lt (by omega) (by omega) hx0 hx1] at h2
  exact ⟨h1, by omega⟩

/-! ### The reference's find -/
theorem posG_lt {l : List S47} {x : Int} : posG x l < l.length ↔ ∃ t ∈ l, t.f0 = x := by
  unfold posG
  rw [List.findIdx_lt_length]
  simp
theorem posG_at {l : List S47} {x : Int} (h : posG x l < l.length) : l[posG x l].f0 = x := by
  have := List.findIdx_getElem (p := fun t : S47 => t.f0 == x) (xs := l) (w := h)
  exact eq_of_beq this
theorem thereA_find {l : List S47} (h : RowsA l) {x : Int} (hx0 : -10000 ≤ x) (hx1 : x ≤ 10000) : thereA l x = decide (idxF x l ≥ 0) := by
  have h1 := thereA_iff h x hx0 hx1
  unfold idxF
  by_cases c : posG x l < l.length
  · rw [if_pos c, h1.2 (posG_lt.1 c), decide_eq_true (by omega)]
  · rw [if_neg c]
    have : ¬ thereA l x = true := fun ht => c (posG_lt.2 (h1.1 ht))
    rw [show thereA l x = false by simpa using this]; rfl
theorem bsA_pos {l : List S47} (h : RowsA l) {x : Int} (hx0 : -10000 ≤ x) (hx1 : x ≤ 10000) (ht : thereA l x = true) : bsA l x = posG x l := by
  obtain ⟨hb, e⟩ := thereA_bs h hx0 hx1 ht
  have hp : posG x l < l.length := posG_lt.2 ((thereA_iff h x hx0 hx1).1 ht)
  have e2 := posG_at hp
  rcases Nat.lt_trichotomy (bsA l x) (posG x l) with c | c | c
  · have := riseA_at h.rise c hp; omega
  · exact c
  · have := riseA_at h.rise c hb; omega

/-! ### The reference's Right -/
end Go.Proofs.Ytlddekjlmkimnaa.C
end
section
-- Written by a program of this session (wip/tools/stub.py, over the kit's print) and by hand; not the kit's print.
namespace Go.Proofs.Ytlddekjlmkimnaa.C
open Go.RowKit Go.Proofs.YtlddekjlmkimnaaW.PrintWords Go.Proofs.YtlddekjlmkimnaaW.PrintLast Go.Proofs.YtlddekjlmkimnaaW.PrintMore
attribute [local go_sem] max2_int min2_int max_two min_two max_three min_three max_four min_four   -- for this text's walks alone
set_option linter.unusedVariables false
set_option linter.unusedSimpArgs false

theorem eqA44 (d : Nat) (w : World) (x0 y0 : Int) (x1 y1 : Int) (x2 y2 : Int) (x3 y3 : Int) :
 (Op.equalIn (d + 2) 44 (.agg #[.int .i64 x0, .int .i64 x1, .int .i64 x2, .int .i64 x3]) (.agg #[.int .i64 y0, .int .i64 y1, .int .i64 y2, .int .i64 y3])).run Try.prog w = .ok (x0 == y0 && (x1 == y1 && (x2 == y2 && (x3 == y3)))) w := by
 refine eqA_of Try.underlying44 (by kernel_rfl) ?_
 refine eqf_cons (by rfl) (by go_simp; rfl) (by go_simp; rfl) (by go_simp) ?_
 refine eqf_cons (by rfl) (by go_simp; rfl) (by go_simp; rfl) (by go_simp) ?_
 refine eqf_cons (by rfl) (by go_simp; rfl) (by go_simp; rfl) (by go_simp) ?_
 exact eqf_last (by rfl) (by go_simp; rfl) (by go_simp; rfl) (by go_simp)
end Go.Proofs.Ytlddekjlmkimnaa.C
end
section
namespace Go.Proofs.Ytlddekjlmkimnaa.C
open Go.RowKit Go.Proofs.YtlddekjlmkimnaaW.PrintWords Go.Proofs.YtlddekjlmkimnaaW.PrintLast Go.Proofs.YtlddekjlmkimnaaW.PrintMore
set_option linter.unusedVariables false
set_option linter.unusedSimpArgs false

set_option maxRecDepth 100000 in
set_option maxHeartbeats 4000000 in
theorem delete_any (w0 w : World) (v : Value) (l : List S47) (own : Int) (p : Nat) (hB : Below w0.heap.size w0 w) (hR : Kd.R k47 47 w w0.heap.size (fun _ => True) v l) (hn : l.length ≤ 1000000) (hc : w.heap[p]? = some (.cells #[.int .i64 own] 3 (0, 0))) :
    Calls Try.prog 73 #[v, .func (.func 74) #[] #[.pointer (some ⟨p, 0, none⟩)]] w fun e w' =>
      ∃ v', e = .returned v' ∧ Kd.R k47 47 w' w0.heap.size (fun _ => True) v' (l.filter (fun x => !(x.f0 == own))) ∧ Below w0.heap.size w0 w' ∧ w.grownBy w' v.ownBlock := by
  obtain ⟨A, c, rfl, hlc, hC⟩ := Kd.R_reads hR
  have hp := blk_lt hc
  have hpc : w.cell? ⟨p, 0, none⟩ = some (.int .i64 own) := (blk_cell hc 0).trans rfl
  have hidx := index_any A c l own p w hC hn hp hpc
  by_cases hf : posG own l < l.length
  · have hix : idxF own l = ((posG own l : Nat) : Int) := by unfold idxF; rw [if_pos hf]
    have hneg : ((((posG own l : Nat) : Int)) == -1) = false := by simp
    obtain ⟨g, cap, e, hgb, hgw, cells, hgc⟩ := Kd.R_form hR (by omega)
    injection e with e1 e2 e3
    subst e1; subst e3
    have hhalf := posG_half l own hf
    rw [hix] at hidx
    generalize posG own l = i0 at *
    have HI := Lib.hid hidx
    have HR := Lib.hid hR
    have HB := Lib.hid hB
    have HC := Lib.hid hc
    have HH := Lib.hid hhalf
    clear hidx hR hB hc hC hhalf hgc hix
    go_enter Try.func73, Try.ntmps73
    go_wp2_with fail
    refine (HI.out).mono ?_
    rintro e w2 ⟨rfl, hb2⟩
    have HB2 := Lib.hid (below_step HB.out hb2)
    have HR2 := Lib.hid (Kd.R_below HR.out hb2)
    have HC2 := Lib.hid (blk_below HC.out hb2)
    have HG2 := Lib.hid (show w.grownBy w2 (some g) from ⟨hb2.os, hb2.tape, hb2.output, hb2.size, fun q hq _ => hb2.block q hq⟩)
    clear hb2
    go_wp2_with fail
    have hpg : p ≠ g := by
      obtain ⟨cells', hcc⟩ := Kd.R_typed HR.out g rfl
      exact blk_ne HC.out hcc (by decide)
    go_loopw [5, 6] (fun a b wr => ∃ (i j : Nat) (m : List S47), a = .int .i64 i ∧ b = .int .i64 j ∧ Hid (Half l m own i j) ∧ Hid (i < j) ∧ Hid (Kd.R k47 47 wr w0.heap.size (fun _ => True) (.slice (some ⟨g, 0, none⟩) l.length c) m) ∧ Hid (Below w0.heap.size w0 wr) ∧ Hid (w.grownBy wr (some g))) (fun _ b _ => l.length - (intOf b).toNat)
    case atStart => exact ⟨i0, i0 + 1, l, rfl, by go_num, HH, Nat.lt_succ_self _, HR2, HB2, HG2⟩
    case round =>
      obtain ⟨i, j, m, rfl, rfl, HHm, Hij, HRm, HBm, HGm⟩ := hrel
      have hij := Hij.out
      have hjl := HHm.out.jl
      have hml := HHm.out.len
      have HCm := Lib.hid (blk_grown HC.out HGm.out (by simp; omega))
      by_cases hlt : j < l.length
      · have hx : m.getD j z47 = l.getD j z47 := by
          have h1 := HHm.out.rest
          have h2 : (m.drop j)[0]? = (l.drop j)[0]? := by rw [h1]
          rw [List.getElem?_drop, List.getElem?_drop] at h2
          simp only [Nat.add_zero] at h2
          rw [List.getD_eq_getElem?_getD, List.getD_eq_getElem?_getD, h2]
        obtain ⟨cc, _, hM, hcell, _⟩ := Kd.R_elem HRm.out z47 (j : Int) (by omega) (by omega)
        obtain rfl := k47_openM hM
        rw [Int.toNat_natCast, hx] at hcell
        have x0 : wr.cell? ⟨g, j * 3, none⟩ = some (.int .i64 (l.getD j z47).f0) := hcell 0 _ rfl
        have x1 : wr.cell? ⟨g, j * 3 + 1, none⟩ = some (.int .i64 (l.getD j z47).f1) := hcell 1 _ rfl
        have x2 : wr.cell? ⟨g, j * 3 + 2, none⟩ = some (.int .i64 (l.getD j z47).f2) := hcell 2 _ rfl
        clear hcell hM hx
        have hstep := HHm.out.skip hlt
        have hkeep := HHm.out.keep hlt
        generalize hT : l.getD j z47 = T at *
        have hbA : Below wr.heap.size wr (wr.alloc (.cells #[.int .i64 T.f0, .int .i64 T.f1, .int .i64 T.f2] 47)) := (Below.refl _ _).alloc (Nat.le_refl _) _
        have HRa := Lib.hid (Kd.R_below HRm.out hbA)
        have HBa := Lib.hid (below_step HBm.out hbA)
        have KP := blk_below HCm.out hbA
        have hpc2 : (wr.alloc (.cells #[.int .i64 T.f0, .int .i64 T.f1, .int .i64 T.f2] 47)).cell? ⟨p, 0, none⟩ = some (.int .i64 own) := (blk_cell KP 0).trans rfl
        have hpl := blk_lt KP
        have HD := Lib.hid (del1 T.f0 T.f1 T.f2 own p _ hpl hpc2)
        have HGa := Lib.hid (show w.grownBy (wr.alloc (.cells #[.int .i64 T.f0, .int .i64 T.f1, .int .i64 T.f2] 47)) (some g) from World.grownBy.trans HGm.out (World.grownBy_alloc _ _ _))
        have K7 := blk_new wr (.cells #[.int .i64 T.f0, .int .i64 T.f1, .int .i64 T.f2] 47)
        have HK7 := Lib.hid K7
        clear K7 KP hpc2 hpl hbA
        by_cases d : T.f0 = own
        · have e1 : (T.f0 == own) = true := by simpa using d
          have HS := Lib.hid (hstep d)
          clear hstep hkeep d
          rw [e1] at HD
          go_wp2_with fail
          refine (HD.out).mono ?_
          rintro e w3 ⟨rfl, hb3⟩
          have HR3 := Lib.hid (Kd.R_below HRa.out hb3)
          have HB3 := Lib.hid (below_step HBa.out hb3)
          have HG3 := Lib.hid (World.grownBy.trans HGa.out (show World.grownBy _ w3 (some g) from ⟨hb3.os, hb3.tape, hb3.output, hb3.size, fun q hq _ => hb3.block q hq⟩))
          clear hb3
          go_wp2
          go_roundw
          case rel => exact ⟨i, j + 1, m, rfl, by go_num, HS, (by show i < j + 1; omega), HR3, HB3, HG3⟩
          case measure => simp [intOf]; omega
        · have e1 : (T.f0 == own) = false := by simpa using d
          have HS := Lib.hid (hkeep d)
          clear hstep hkeep d
          rw [e1] at HD
          go_wp2_with fail
          refine (HD.out).mono ?_
          rintro e w3 ⟨rfl, hb3⟩
          have hR3 := Kd.R_below HRa.out hb3
          have HB3 := Lib.hid (below_step HBa.out hb3)
          have HG3 := Lib.hid (World.grownBy.trans HGa.out (show World.grownBy _ w3 (some g) from ⟨hb3.os, hb3.tape, hb3.output, hb3.size, fun q hq _ => hb3.block q hq⟩))
          have K3 := blk_below HK7.out hb3
          have y0 : w3.cell? ⟨wr.heap.size, 0, none⟩ = some (.int .i64 T.f0) := (blk_cell K3 0).trans rfl
          have y1 : w3.cell? ⟨wr.heap.size, 1, none⟩ = some (.int .i64 T.f1) := (blk_cell K3 1).trans rfl
          have y2 : w3.cell? ⟨wr.heap.size, 2, none⟩ = some (.int .i64 T.f2) := (blk_cell K3 2).trans rfl
          obtain ⟨cc, hcl, hM, hcell, hfr⟩ := Kd.R_elem hR3 z47 (i : Int) (by omega) (by omega)
          obtain rfl := k47_openM hM
          have hseg := Kd.R_seg hR3 (i : Int) (by omega) (by omega) (seg := [.int .i64 T.f0, .int .i64 T.f1, .int .i64 T.f2]) (j := 0) hcl hcell (show 0 + 3 ≤ 3 by omega) (x' := T) (k47_mkM _ _ _ T) (fun _ hk => hk)
          have z0 := hcell 0 _ rfl
          have z1 := hcell 1 _ rfl
          have z2 := hcell 2 _ rfl
          have q0 := hfr 0
          have q1 := hfr 1
          have q2 := hfr 2
          rw [Int.toNat_natCast] at z0 z1 z2 q0 q1 q2
          simp only [show k47.sz = 3 from rfl, Nat.add_zero] at z0 z1 z2 q0 q1 q2
          have HSEG := Lib.hid hseg
          clear hseg hcell hfr hM hb3 K3 hcl hR3
          have hil : (i : Int) < (l.length : Int) := by omega
          go_wp2
          go_roundw
          case rel =>
            obtain ⟨s1, s2⟩ := HSEG.out
            rw [Int.toNat_natCast] at s1 s2
            exact ⟨i + 1, j + 1, _, by go_num, by go_num, HS, (by show i + 1 < j + 1; omega), s1, HB3.out.grown s2 HB3.out.size (fun k hk => by injection hk with hk; subst hk; exact hgb), World.grownBy.trans HG3.out s2⟩
          case measure => simp [intOf]; omega
      · obtain rfl : j = l.length := by omega
        have hr1 := A_own HRm.out
        rw [hml] at hr1
        obtain ⟨cur1, hc1, hcs1, hct1, hcl1, hcm1⟩ : ∃ cur1, wr.heap[g]? = some (.cells cur1 47 (0, 0)) ∧ cur1.size = c * 3 ∧ cur1.toList.take (l.length * 3) = flat encA m ∧ l.length ≤ c ∧ c ≤ maxLen := by
          rcases hr1.2 with ⟨e, _⟩ | ⟨g', c', cur', e, _, h1, h4, h5, h2, h3⟩
          · cases e
          · injection e with e1 _ e3
            injection e1 with e1
            injection e1 with e1
            subst e1; subst e3
            exact ⟨_, h1, h2, h3, h4, h5⟩
        obtain ⟨zs, hzs⟩ : ∃ zs, zs = (Builtin.zeroCells (Value.agg #[.int .i64 0, .int .i64 0, .int .i64 0]).cells (l.length - i)).toList := ⟨_, rfl⟩
        have hzl : zs.length = (l.length - i) * 3 := by rw [hzs]; simp [Builtin.zeroCells, Value.cells]
        have hz1 : ∀ v ∈ zs, v.oneCell' = true := by
          rw [hzs]; intro v hv
          simp [Builtin.zeroCells, Value.cells] at hv
          obtain ⟨q, hq, rfl⟩ := hv
          have : q % 3 = 0 ∨ q % 3 = 1 ∨ q % 3 = 2 := by omega
          rcases this with h | h | h <;> rw [h] <;> rfl
        obtain ⟨W2, hW2⟩ : ∃ W2, W2 = wr.setRow g (cur1.toList.take (i * 3) ++ zs ++ cur1.toList.drop (i * 3 + zs.length)).toArray := ⟨_, rfl⟩
        have hrun : ∀ ty cc, (Builtin.clear_ #[25] ty #[.slice (some ⟨g, i * 3, none⟩) (l.length - i) cc]).run Try.prog wr = .ok (.tuple #[]) W2 := fun ty cc => by
          rw [hW2]
          exact run_clearK wr 25 47 ty (.agg #[.int .i64 0, .int .i64 0, .int .i64 0]) Try.underlying25 (fun _ => by kernel_rfl) g (i * 3) (l.length - i) cc cur1 47 hc1 (by omega) zs hzs.symm (by rw [hzl]; omega) hz1
        have hres : Kd.R k47 47 W2 w0.heap.size (fun _ => True) (.slice (some ⟨g, 0, none⟩) i c) (l.filter (fun x => !(x.f0 == own))) := by
          have hmt : m.take i = l.filter (fun x => !(x.f0 == own)) := by rw [HHm.out.fst, List.take_length]
          have hil : (l.filter (fun x => !(x.f0 == own))).length = i := by rw [← hmt, List.length_take]; omega
          refine A_mk ?_ (fun _ _ => trivial)
          rw [hil]
          refine ⟨by rw [flat_len encA_len, hil], .inr ⟨g, c, _, rfl, hgb, by rw [hW2]; exact setRow_heap _ _ _ _ _ _ hc1, by omega, hcm1, ?_, ?_⟩⟩
          · simp only [List.size_toArray, List.length_append, List.length_take, List.length_drop, Array.length_toList, hcs1, hzl]; omega
          · have hq : cur1.toList.length = c * 3 := by rw [Array.length_toList]; exact hcs1
            rw [← hmt, flat_take encA_len, ← hct1, List.take_take]
            show ((cur1.toList.take (i * 3) ++ zs) ++ _).take _ = _
            rw [List.append_assoc, List.take_left' (by rw [List.length_take]; omega)]
            congr 1; omega
        have hg2 : wr.grownBy W2 (some g) := by rw [hW2]; exact grown_setRow _ _ _
        have HE := Lib.hid (And.intro hres (And.intro (HBm.out.grown hg2 HBm.out.size (fun k hk => by injection hk with hk; subst hk; exact hgb)) (World.grownBy.trans HGm.out hg2)))
        have hic : ¬ (c = i) := by omega
        have hil2 : i ≤ l.length := by omega
        have hic2 : i ≤ c := by omega
        have hcmm : c ≤ 9223372036854775807 := hcm1
        clear hres hg2 hW2 hc1 hct1 hr1 hzs hz1
        go_wp2_with (refine wpList_clear_run wr rfl _ 25 rfl _ rfl (hrun _ _) ?_)
        go_ret
        exact ⟨_, rfl, HE.out⟩
  · have hix : idxF own l = -1 := by unfold idxF; rw [if_neg hf]
    have hnone := posG_none l own hf
    rw [hix] at hidx
    have HI := Lib.hid hidx
    have HR := Lib.hid hR
    have HB := Lib.hid hB
    clear hidx hR hB hc hC hix
    go_enter Try.func73, Try.ntmps73
    go_wp2_with fail
    refine (HI.out).mono ?_
    rintro e w2 ⟨rfl, hb2⟩
    go_wp2
    go_ret
    exact ⟨_, rfl, by rw [hnone]; exact Kd.R_below HR.out hb2, below_step HB.out hb2, ⟨hb2.os, hb2.tape, hb2.output, hb2.size, fun q hq _ => hb2.block q hq⟩⟩
end Go.Proofs.Ytlddekjlmkimnaa.C
end
