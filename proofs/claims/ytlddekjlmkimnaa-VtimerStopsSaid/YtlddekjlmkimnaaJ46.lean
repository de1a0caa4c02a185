import Derived.Test.YtlddekjlmkimnaaJ38
import Derived.Test.YtlddekjlmkimnaaJ39
import Derived.Test.YtlddekjlmkimnaaHstops
import Derived.Test.YtlddekjlmkimnaaLstops
import Derived.Test.YtlddekjlmkimnaaJ6
import Derived.Lib.SmallJoins
import Derived.Deep.SlicePairs
section
namespace Go.Proofs.Ytlddekjlmkimnaa.C
open Go.RowKit Go.Sort Go.Proofs.YtlddekjlmkimnaaW.PrintWords Go.Proofs.YtlddekjlmkimnaaW.PrintLast Go.Proofs.YtlddekjlmkimnaaW.PrintMore
set_option linter.unusedVariables false
set_option linter.unusedSimpArgs false

theorem time_some (a0 a1 a2 a3 a4 a5 : Int) (a6 : Bool) (now : Int) (ts : List S88) (rs : List S47) : ∃ T, mainsheetlaw18_Op_time.f a0 a1 a2 a3 a4 a5 a6 now ts rs = some T := by
  unfold mainsheetlaw18_Op_time.f; split <;> exact ⟨_, rfl⟩
theorem setF_ok {now : Int} {ts : List S88} (hw : okW now ts = true) {id v : Int} (h : (setF now ts id v).2.2 = 0) : (now < v ∧ v ≤ 1125899906842624) ∧ 0 ≤ id ∧ id < 32 ∧ setF now ts id v = (now, withR ts id v, 0) := by
  have h0 := (okW_now hw).1
  unfold setF at h ⊢
  rw [if_pos hw] at h ⊢
  by_cases c : 0 ≤ id ∧ id < 32 ∧ now < v ∧ v ≤ 1125899906842624
  · rw [if_pos c, set_with hw id v c.1 c.2.1 (by omega)]
    exact ⟨c.2.2, c.1, c.2.1, rfl⟩
  · rw [if_neg c] at h; simp at h
theorem cancelF_there {now : Int} {ts : List S88} (hw : okW now ts = true) {id : Int} (h : 0 < atR ts id) : cancelF now ts id = (now, withR ts id 0, 0) := by
  have hf : found ts id = true := by
    by_cases c : found ts id = true
    · exact c
    · have := (atR_found hw id).2 c; omega
  unfold cancelF
  rw [if_pos hw, if_pos hf, erase_with hw id hf]
theorem cancelF_none {now : Int} {ts : List S88} (hw : okW now ts = true) {id : Int} (h : atR ts id = 0) : cancelF now ts id = (0, [], 4) := by
  have hf : ¬ found ts id = true := fun c => by have := (atR_found hw id).1 c; omega
  unfold cancelF
  rw [if_pos hw, if_neg hf]

theorem stops_j2 (k : Nat) (hk : 200 ≤ k) (a0 a1 a2 a3 a4 a5 : Int) (a6 : Bool) (now : Int) (ts : List S88) (rs : List S47) (hok : okAl now ts rs = true) : mainsheetlaw18_VtimerStops.j2 k a0 a1 a2 a3 a4 a5 a6 now ts rs = some true := by
  obtain ⟨k, rfl⟩ : ∃ m, k = m + 1 := ⟨k - 1, by omega⟩
  obtain ⟨T, hT⟩ := time_some a0 a1 a2 a3 a4 a5 a6 now ts rs
  have hw := okAl_wheel hok
  have hr := okAl_rows hok
  have l1 := okW_len hw
  have l2 := rowsA_len16 hr
  simp only [mainsheetlaw18_VtimerStops.j2]
  rw [hT]
  simp only [Option.bind_some]
  have hs : vtimer_Sleep.f now ts rs a1 T = some (sleepF now ts rs a1 T) := by unfold vtimer_Sleep.f; rw [if_pos ⟨by omega, by omega⟩]
  rw [hs]
  simp only [Option.bind_some]
  by_cases e : (sleepF now ts rs a1 T).2.2.2 = 0
  · rw [if_pos e]
    unfold sleepF at e ⊢
    rw [if_pos hok] at e ⊢
    by_cases hv : vcpuB a1 = true
    · rw [if_pos hv] at e ⊢
      by_cases hz : (setF now ts (15 + a1) T).2.2 = 0
      · rw [if_pos hz] at e ⊢
        obtain ⟨hb, h0, h3, hq⟩ := setF_ok hw hz
        rw [hq]
        simp only
        have hv' := vcpuB_iff.1 hv
        have hn := okW_now hw
        have ok1 := okAl_sleep hok a1 T hv'.1 hv'.2 (Or.inr hb)
        have hw1 := okAl_wheel ok1
        have m1 := okW_len hw1
        have at1 : atR (withR ts (15 + a1) T) (15 + a1) = T := by rw [atR_withR hw _ _ _ (by omega) (by omega) (by omega), if_pos rfl]
        have hs1 := sleeps_k now (withR ts (15 + a1) T) rs a1 (by omega) (by omega) (by omega) (by omega) k (by omega)
        rw [if_pos ⟨ok1, hv⟩, at1, decide_eq_true (show 0 < T by omega)] at hs1
        rw [hs1]
        simp only [Option.bind_some]
        have hc1 := cancelF_there hw1 (id := 15 + a1) (by rw [at1]; omega)
        have hk1 : vtimer_Wake.f now (withR ts (15 + a1) T) rs a1 = some (now, withR (withR ts (15 + a1) T) (15 + a1) 0, rs, 0) := by
          unfold vtimer_Wake.f wakeF
          rw [if_pos ⟨by omega, by omega⟩, if_pos ok1, if_pos hv, hc1, if_pos rfl]
        rw [hk1]
        simp only [Option.bind_some]
        have ok2 := okAl_sleep ok1 a1 0 hv'.1 hv'.2 (Or.inl rfl)
        have hw2 := okAl_wheel ok2
        have m2 := okW_len hw2
        have at2 : atR (withR (withR ts (15 + a1) T) (15 + a1) 0) (15 + a1) = 0 := by rw [atR_withR hw1 _ _ _ (by omega) (by omega) (by omega), if_pos rfl]
        have hs2 := sleeps_k now (withR (withR ts (15 + a1) T) (15 + a1) 0) rs a1 (by omega) (by omega) (by omega) (by omega) k (by omega)
        rw [if_pos ⟨ok2, hv⟩, at2, decide_eq_false (show ¬ (0 : Int) < 0 by omega)] at hs2
        rw [hs2]
        simp only [Option.bind_some]
        have hk2 : vtimer_Wake.f now (withR (withR ts (15 + a1) T) (15 + a1) 0) rs a1 = some (0, [], [], 4) := by
          unfold vtimer_Wake.f wakeF
          rw [if_pos ⟨by omega, by omega⟩, if_pos ok2, if_pos hv, cancelF_none hw2 at2, if_neg (by decide)]
        rw [hk2]
        simp
      · rw [if_neg hz] at e
        exact absurd e hz
    · rw [if_neg hv] at e
      simp at e
  · rw [if_neg e]
    have : (sleepF now ts rs a1 T).2.2.1 = [] := by
      unfold sleepF at e ⊢
      rw [if_pos hok] at e ⊢
      by_cases hv : vcpuB a1 = true
      · rw [if_pos hv] at e ⊢
        by_cases hz : (setF now ts (15 + a1) T).2.2 = 0
        · rw [if_pos hz] at e; simp at e
        · rw [if_neg hz]
      · rw [if_neg hv]
    rw [this]
    rfl

theorem stops_l0 (l : List S44) (hl : l.length ≤ 32) (d : Nat) : ∀ (k i : Nat) (a0 a1 a2 a3 a4 a5 : Int) (a6 : Bool) (now : Int) (ts : List S88) (rs : List S47), okAl now ts rs = true → i ≤ l.length → l.length - i = d → d + 201 ≤ k → (∀ q ∈ l, q.f0 = a2 → ¬ q.f1 > 0) →
    mainsheetlaw18_VtimerStops.l0 k l (l.length : Int) (i : Int) a0 a1 a2 a3 a4 a5 a6 now ts rs = some true := by
  induction d with
  | zero =>
    intro k i a0 a1 a2 a3 a4 a5 a6 now ts rs hok hi hd hk hq
    obtain ⟨k, rfl⟩ : ∃ m, k = m + 1 := ⟨k - 1, by omega⟩
    simp only [mainsheetlaw18_VtimerStops.l0]
    rw [if_neg (by omega)]
    exact stops_j2 k (by omega) _ _ _ _ _ _ _ _ _ _ hok
  | succ d ih =>
    intro k i a0 a1 a2 a3 a4 a5 a6 now ts rs hok hi hd hk hq
    obtain ⟨k, rfl⟩ : ∃ m, k = m + 1 := ⟨k - 1, by omega⟩
    have hlt : i < l.length := by omega
    have hb2 : l.length - (i + 1) = d := by omega
    have hw : wrap64 ((i : Int) + 1) = ((i + 1 : Nat) : Int) := by rw [wrap64_id] <;> omega
    have hrd : rd_T44 l (i : Int) = l[i] := by simp [rd_T44, List.getD_eq_getElem?_getD, hlt]
    have hI := ih k (i + 1) a0 a1 a2 a3 a4 a5 a6 now ts rs hok hlt hb2 (by omega) hq
    simp only [mainsheetlaw18_VtimerStops.l0]
    rw [if_pos (by omega), if_pos (by omega), if_pos (by omega), hrd, hw]
    by_cases c : l[i].f0 = a2
    · rw [if_pos c, if_neg (hq _ (List.getElem_mem hlt) c)]
      exact hI
    · rw [if_neg c]
      exact hI

theorem vtimerStops_true (now : Int) (l1 : List S88) (l2 : List S47) (a0 a1 a2 a3 a4 a5 : Int) (a6 : Bool) : mainsheetlaw18_VtimerStops.f 1000 now l1 l2 a0 a1 a2 a3 a4 a5 a6 = some true := by
  unfold mainsheetlaw18_VtimerStops.f
  obtain ⟨K, hK⟩ : ∃ K, K = 1000 := ⟨_, rfl⟩
  rw [← hK]
  rw [wakes18_k K (by omega)]
  simp only [Option.bind_some, if_true]
  rw [short_f]
  simp only [Option.bind_some]
  have l1' : (l1.take 33).length ≤ 33 := by rw [List.length_take]; omega
  have l2' : (l2.take 17).length ≤ 17 := by rw [List.length_take]; omega
  generalize l1.take 33 = ts at l1' ⊢
  generalize l2.take 17 = rs at l2' ⊢
  rw [chk_k now ts rs (by omega) (by omega) K (by omega)]
  simp only [Option.bind_some]
  cases hok : okAl now ts rs with
  | false => simp
  | true =>
    rw [if_pos rfl, if_pos rfl]
    obtain ⟨T, hT⟩ := time_some a0 a1 a2 a3 a4 a5 a6 now ts rs
    have hw := okAl_wheel hok
    have hr := okAl_rows hok
    have hn := okW_now hw
    rw [hT]
    simp only [Option.bind_some]
    have hs : vtimer_Start.f now ts rs a2 a3 a4 T = some (startF now ts rs ⟨a2, a3, a4⟩ T) := by unfold vtimer_Start.f; rw [if_pos ⟨by omega, by omega⟩]
    rw [hs]
    simp only [Option.bind_some]
    by_cases e : (startF now ts rs ⟨a2, a3, a4⟩ T).2.2.2 = 0
    · rw [if_pos e]
      unfold startF at e ⊢
      rw [if_pos hok] at e ⊢
      by_cases hv : vcpuB a2 = true
      · rw [if_pos hv] at e ⊢
        by_cases hx : okA ⟨a2, a3, a4⟩ = true
        · rw [if_pos hx] at e ⊢
          by_cases hz : (setF now ts (a2 - 1) T).2.2 = 0
          · simp only [hz, if_true] at e ⊢
            obtain ⟨hb, h0, h3, hq⟩ := setF_ok hw hz
            rw [hq]
            simp only
            have hv' := vcpuB_iff.1 hv
            have ok1 := okAl_start hok hx hb
            simp only at ok1
            obtain ⟨R, hR⟩ : ∃ R, putA rs (bsA rs a2) (thereA rs a2) ⟨a2, a3, a4⟩ = R := ⟨_, rfl⟩
            have hmem : ∀ y, y ∈ R ↔ y = ⟨a2, a3, a4⟩ ∨ (y ∈ rs ∧ y.f0 ≠ a2) := fun y => by rw [← hR]; exact putA_mem hr hx y
            rw [hR] at ok1 ⊢
            have hw1 := okAl_wheel ok1
            have m1 := okW_len hw1
            have n1 := rowsA_len16 (okAl_rows ok1)
            have at1 : atR (withR ts (a2 - 1) T) (a2 - 1) = T := by rw [atR_withR hw _ _ _ (by omega) (by omega) (by omega), if_pos rfl]
            have hg1 := get_k now (withR ts (a2 - 1) T) R a2 (by omega) (by omega) (by omega) (by omega) K (by omega)
            have hget : getF (withR ts (a2 - 1) T) R a2 = (a2, a3, a4, T, true) := by
              have hp : posG a2 R < R.length := posG_lt.2 ⟨⟨a2, a3, a4⟩, (hmem _).2 (Or.inl rfl), rfl⟩
              have hpa := posG_at hp
              have hpm := (hmem _).1 (List.getElem_mem hp)
              have he : R[posG a2 R] = ⟨a2, a3, a4⟩ := by
                rcases hpm with h | ⟨_, h⟩
                · exact h
                · exact absurd hpa h
              have hg : R.getD (posG a2 R) z47 = R[posG a2 R] := by simp [List.getD_eq_getElem?_getD, hp]
              unfold getF
              rw [if_pos hp, hg, he, at1]
            rw [if_pos ok1, hget] at hg1
            rw [hg1]
            simp only [Option.bind_some]
            have hc1 := cancelF_there hw1 (id := a2 - 1) (by rw [at1]; omega)
            have hk1 : vtimer_Stop.f now (withR ts (a2 - 1) T) R a2 = some (now, withR (withR ts (a2 - 1) T) (a2 - 1) 0, R.filter (fun y => !(y.f0 == a2)), 0) := by
              unfold vtimer_Stop.f stopF
              rw [if_pos ⟨by omega, by omega⟩, if_pos ok1, if_pos hv, hc1, if_pos rfl]
            rw [hk1]
            simp only [Option.bind_some]
            have ok2 := okAl_stop ok1 a2 hv'.1 hv'.2
            have hw2 := okAl_wheel ok2
            have m2 := okW_len hw2
            have n2 := rowsA_len16 (okAl_rows ok2)
            have at2 : atR (withR (withR ts (a2 - 1) T) (a2 - 1) 0) (a2 - 1) = 0 := by rw [atR_withR hw1 _ _ _ (by omega) (by omega) (by omega), if_pos rfl]
            have hg2 := get_k now (withR (withR ts (a2 - 1) T) (a2 - 1) 0) (R.filter (fun y => !(y.f0 == a2))) a2 (by omega) (by omega) (by omega) (by omega) K (by omega)
            have hget2 : getF (withR (withR ts (a2 - 1) T) (a2 - 1) 0) (R.filter (fun y => !(y.f0 == a2))) a2 = (0, 0, 0, 0, false) := by
              unfold getF
              rw [if_neg (fun hp => by
                obtain ⟨t, ht, he⟩ := posG_lt.1 hp
                exact ((filter_memA a2 t).1 ht).2 he)]
            rw [if_pos ok2, hget2] at hg2
            rw [hg2]
            simp only [Option.bind_some]
            obtain ⟨ts', rs', l, hp, hll, hlm⟩ := passV_some ok2 1125899906842624 hn.2 (Int.le_refl _)
            have hpf : vtimer_Pass.f now (withR (withR ts (a2 - 1) T) (a2 - 1) 0) (R.filter (fun y => !(y.f0 == a2))) 1125899906842624 = some (1125899906842624, ts', rs', l, 0) := by
              unfold vtimer_Pass.f
              rw [if_pos ⟨by omega, by omega⟩, hp]
            rw [hpf]
            simp only [Option.bind_some, beq_self_eq_true, Bool.not_true, Bool.or_false, Bool.false_eq_true, if_false, if_true, bne_self_eq_false]
            have hfin : ∀ q ∈ l, q.f0 = a2 → ¬ q.f1 > 0 := fun q hq he => by
              obtain ⟨t, ht, h5, h6⟩ := hlm q hq
              have hb' := okW_mem hw2 ht
              by_cases c : t.f0 < 16
              · have h7 : t.f0 = a2 - 1 := by omega
                have h8 := atR_mem (okW_rise hw2) ht
                rw [h7, at2] at h8
                omega
              · have := h6 (by omega); omega
            obtain ⟨K, rfl⟩ : ∃ m, K = m + 1 := ⟨K - 1, by omega⟩
            have := stops_l0 l hll l.length K 0 a0 a1 a2 a3 a4 a5 a6 now ts rs hok (by omega) (by omega) (by omega) hfin
            simp only [mainsheetlaw18_VtimerStops.j0, Bool.false_eq_true, if_false]
            exact this
          · rw [if_neg hz] at e; simp at e
        · rw [if_neg hx] at e; simp at e
      · rw [if_neg hv] at e; simp at e
    · rw [if_neg e]
      exact stops_j2 K (by omega) _ _ _ _ _ _ _ _ _ _ hok
end Go.Proofs.Ytlddekjlmkimnaa.C
end
section
namespace Go.Proofs.Ytlddekjlmkimnaa.C
open Go.RowKit Go.Deep Go.Joins Go.ChangeShapes Go.WideShapes Go.Proofs.YtlddekjlmkimnaaW.PrintWords Go.Proofs.YtlddekjlmkimnaaW.PrintLast Go.Proofs.YtlddekjlmkimnaaW.PrintMore
set_option linter.unusedVariables false
set_option linter.unusedSimpArgs false

/-- A row that is handed in, whatever its elements. -/
theorem open_rows {H α : Type} {enc : TypeId × Value → H} {w : World} {base : Nat} {spare : Nat → Bool} {held : Bool} {t e : TypeId} (d : Kd α) (z : α) (ht : Try.prog.underlying t = some (.slice e)) (hn : Try.prog.cellsOf e = d.sz)
    (hE : ∀ fuel cs x, DataW.trod enc Try.prog w base spare held fuel e cs = some x → ∃ y, d.K w y cs) {fuel : Nat} {cs : List Value} {x : DataW H × List MemPlace} (h : DataW.trod enc Try.prog w base spare held fuel t cs = some x) :
    ∃ A c l, cs = [.slice A l.length c] ∧ Kd.C d w A l.length l ∧ l.length ≤ c := by
  rcases open_slice ht h with ⟨rfl, _⟩ | ⟨a, len, cap, m, n, D, Pl, rfl, _, hl, hm, hmm, _, hx⟩
  · exact ⟨none, 0, [], rfl, ⟨rfl, by simp, fun h => by cases h⟩, Nat.le_refl _⟩
  · have hlm : len ≤ m := by rw [hmm]; split <;> omega
    have each : ∀ i, ∃ y : α, i < len → ∃ c, c.length = d.sz ∧ d.K w y c ∧ ∀ j u, c[j]? = some u → w.cell? (a.add (i * d.sz + j)) = some u := by
      intro i
      by_cases hi : i < len
      · obtain ⟨cs', h1, h2⟩ := hx i (by omega)
        obtain ⟨_, hlen, hcell⟩ := World.cells?_some h1
        obtain ⟨y, hy⟩ := hE _ _ _ h2
        rw [hn] at hlen hcell
        refine ⟨y, fun _ => ⟨cs', hlen, hy, fun j u hu => ?_⟩⟩
        have hj : j < cs'.length := (List.getElem?_eq_some_iff.1 hu).1
        have := hcell j (by omega)
        rw [Go.Deep.add_add] at this
        rw [this, hu]
      · exact ⟨z, fun h => absurd h hi⟩
    obtain ⟨f, hf⟩ := Classical.axiomOfChoice each
    have hm' : cap ≤ 9223372036854775807 := hm
    refine ⟨some a, cap, (List.range len).map f, by simp, ⟨by simp, by simp; omega, fun _ => ⟨a, rfl, fun j p hj => ?_⟩⟩, by simpa using hl⟩
    obtain ⟨hjl, hjp⟩ := List.getElem?_eq_some_iff.1 hj
    have hjl' : j < len := by simpa using hjl
    obtain rfl : f j = p := by simpa using hjp
    exact hf j hjl'
set_option maxRecDepth 100000 in
theorem open_T88 {H : Type} {enc : TypeId × Value → H} {w : World} {base : Nat} {spare : Nat → Bool} {held : Bool} (fuel : Nat) (cs : List Value) (x : DataW H × List MemPlace) (h : DataW.trod enc Try.prog w base spare held fuel 88 cs = some x) : ∃ y, k88.K w y cs := by
  have hh := trod_struct2 Try.underlying88 h
  obtain ⟨y0, y1, n, _, hl, h0, h1⟩ := hh
  rw [show Try.prog.cellsOf 88 = 2 by kernel_rfl] at hl
  match cs, hl with
  | [v0, v1], _ =>
    rw [show Try.prog.cellsOf 3 = 1 by kernel_rfl] at h0
    rw [show Try.prog.cellsOf 2 = 1 by kernel_rfl] at h1
    obtain ⟨a, e0, _, _⟩ := DataW.trod_int Try.underlying3 h0
    obtain ⟨b, e1, _, _⟩ := DataW.trod_int Try.underlying2 h1
    simp at e0 e1
    subst e0 e1
    exact ⟨⟨a, b⟩, k88_mk w ⟨a, b⟩⟩
set_option maxRecDepth 100000 in
theorem open_T47 {H : Type} {enc : TypeId × Value → H} {w : World} {base : Nat} {spare : Nat → Bool} {held : Bool} (fuel : Nat) (cs : List Value) (x : DataW H × List MemPlace) (h : DataW.trod enc Try.prog w base spare held fuel 47 cs = some x) : ∃ y, k47.K w y cs := by
  have hh := trod_struct3 Try.underlying47 h
  obtain ⟨y0, y1, y2, n, _, hl, h0, h1, h2⟩ := hh
  rw [show Try.prog.cellsOf 47 = 3 by kernel_rfl] at hl
  match cs, hl with
  | [v0, v1, v2], _ =>
    rw [show Try.prog.cellsOf 3 = 1 by kernel_rfl] at h0 h1
    rw [show Try.prog.cellsOf 2 = 1 by kernel_rfl] at h2
    obtain ⟨a, e0, _, _⟩ := DataW.trod_int Try.underlying3 h0
    obtain ⟨b, e1, _, _⟩ := DataW.trod_int Try.underlying3 h1
    obtain ⟨c, e2, _, _⟩ := DataW.trod_int Try.underlying2 h2
    simp at e0 e1 e2
    subst e0 e1 e2
    exact ⟨⟨a, b, c⟩, k47_mk w ⟨a, b, c⟩⟩
set_option maxRecDepth 100000 in
theorem open_T24 {H : Type} {enc : TypeId × Value → H} {w : World} {base : Nat} {spare : Nat → Bool} {held : Bool} (fuel : Nat) (cs : List Value) (x : DataW H × List MemPlace) (h : DataW.trod enc Try.prog w base spare held fuel 24 cs = some x) :
    ∃ now A c l, cs = [.int .i64 now, .slice A l.length c] ∧ Kd.C k88 w A l.length l ∧ l.length ≤ c := by
  have hh := trod_struct2 Try.underlying24 h
  obtain ⟨y0, y1, n, _, hl, h0, h1⟩ := hh
  rw [show Try.prog.cellsOf 24 = 2 by kernel_rfl] at hl
  match cs, hl with
  | [v0, v1], _ =>
    rw [show Try.prog.cellsOf 2 = 1 by kernel_rfl] at h0
    rw [show Try.prog.cellsOf 22 = 1 by kernel_rfl] at h1
    obtain ⟨a, e0, _, _⟩ := DataW.trod_int Try.underlying2 h0
    obtain ⟨A, c, l, e1, hC, hc⟩ := open_rows k88 ⟨0, 0⟩ Try.underlying22 (by kernel_rfl) open_T88 h1
    simp at e0 e1
    subst e0 e1
    exact ⟨a, A, c, l, rfl, hC, hc⟩
set_option maxRecDepth 100000 in
/-- Alarms that are handed in. -/
theorem open_T27 {H : Type} {enc : TypeId × Value → H} {w : World} {base : Nat} {spare : Nat → Bool} {held : Bool} (fuel : Nat) (cs : List Value) (x : DataW H × List MemPlace) (h : DataW.trod enc Try.prog w base spare held fuel 27 cs = some x) : ∃ y, k27.K w y cs := by
  have hh := trod_struct2 Try.underlying27 h
  obtain ⟨y0, y1, n, _, hl, h0, h1⟩ := hh
  rw [show Try.prog.cellsOf 27 = 3 by kernel_rfl] at hl
  match cs, hl with
  | [v0, v1, v2], _ =>
    rw [show Try.prog.cellsOf 24 = 2 by kernel_rfl] at h0
    rw [show Try.prog.cellsOf 25 = 1 by kernel_rfl] at h1
    obtain ⟨now, A, c, l, e0, hC, hc⟩ := open_T24 _ _ _ h0
    obtain ⟨A2, c2, l2, e1, hC2, hc2⟩ := open_rows k47 ⟨0, 0, 0⟩ Try.underlying25 (by kernel_rfl) open_T47 h1
    simp at e0 e1
    obtain ⟨rfl, rfl⟩ := e0
    subst e1
    exact ⟨⟨⟨now, l⟩, l2⟩, k27_mk w ⟨⟨now, l⟩, l2⟩ hc hC hc2 hC2⟩
end Go.Proofs.Ytlddekjlmkimnaa.C
end
section
namespace Go.Proofs.Ytlddekjlmkimnaa.C
open Go.RowKit Go.Deep Go.Joins Go.ChangeShapes Go.WideShapes Go.Proofs.YtlddekjlmkimnaaW.PrintWords Go.Proofs.YtlddekjlmkimnaaW.PrintLast Go.Proofs.YtlddekjlmkimnaaW.PrintMore
set_option linter.unusedVariables false
set_option linter.unusedSimpArgs false

set_option maxRecDepth 100000 in
/-- Alarms that are handed in by value. -/
theorem open_al {H : Type} {enc : TypeId × Value → H} {w : World} {r : Reach} {base b0 : Nat} {spare : Nat → Bool} {held : Bool} {v : Value} {d : DataW H} {p : List MemPlace} (hv : Value.okWide Try.prog w r b0 27 v) (h : DataW.Trod enc Try.prog w base spare held 27 v d p) :
    ∃ now A1 c1 ts A2 c2 rs, v = .agg #[.int .i64 now, .slice A1 ts.length c1, .slice A2 rs.length c2] ∧ Kd.C k88 w A1 ts.length ts ∧ ts.length ≤ c1 ∧ Kd.C k47 w A2 rs.length rs ∧ rs.length ≤ c2 := by
  obtain ⟨cs, rfl, hsz⟩ := okWide_struct Try.underlying27 hv
  obtain ⟨fuel, hf⟩ := h
  obtain ⟨y, hy⟩ := open_T27 _ _ _ hf
  obtain ⟨A1, c1, A2, c2, e, l1, g1, l2, g2⟩ := k27_open hy
  obtain ⟨⟨now, ts⟩, rs⟩ := y
  refine ⟨now, A1, c1, ts, A2, c2, rs, ?_, g1, l1, g2, l2⟩
  congr 1
  exact Array.toList_inj.1 (by simpa [Value.cells] using e)
set_option maxRecDepth 100000 in
theorem open_T58 {H : Type} {enc : TypeId × Value → H} {w : World} {base : Nat} {spare : Nat → Bool} {held : Bool} (fuel : Nat) (cs : List Value) (x : DataW H × List MemPlace) (h : DataW.trod enc Try.prog w base spare held fuel 58 cs = some x) :
    ∃ a0 a1 a2 a3 a4 a5 a6, cs = [.int .i64 a0, .int .i64 a1, .int .i64 a2, .int .i64 a3, .int .i64 a4, .int .i64 a5, .bool a6] := by
  have hh := DataW.trod_struct Try.underlying58 h
  obtain ⟨xs, n, _, _, hl, hlen, hf⟩ := hh
  rw [show Try.prog.cellsOf 58 = 7 by kernel_rfl] at hl
  match xs, hlen, cs, hl with
  | [y0, y1, y2, y3, y4], _, [v0, v1, v2, v3, v4, v5, v6], _ =>
    have h0 := hf 0 { name := "Kind", type := 3, offset := 0, embedded := false, tag := "", pkgPath := "", byteOffset := 0 } rfl
    have h1 := hf 1 { name := "Vcpu", type := 3, offset := 1, embedded := false, tag := "", pkgPath := "", byteOffset := 8 } rfl
    have h2 := hf 2 { name := "Alarm", type := 47, offset := 2, embedded := false, tag := "", pkgPath := "", byteOffset := 16 } rfl
    have h3 := hf 3 { name := "Time", type := 2, offset := 5, embedded := false, tag := "", pkgPath := "", byteOffset := 40 } rfl
    have h4 := hf 4 { name := "On", type := 4, offset := 6, embedded := false, tag := "", pkgPath := "", byteOffset := 48 } rfl
    dsimp only at h0 h1 h2 h3 h4
    rw [show Try.prog.cellsOf 3 = 1 by kernel_rfl] at h0 h1
    rw [show Try.prog.cellsOf 2 = 1 by kernel_rfl] at h3
    rw [show Try.prog.cellsOf 47 = 3 by kernel_rfl] at h2
    rw [show Try.prog.cellsOf 4 = 1 by kernel_rfl] at h4
    obtain ⟨a0, e0, _, _⟩ := DataW.trod_int Try.underlying3 h0
    obtain ⟨a1, e1, _, _⟩ := DataW.trod_int Try.underlying3 h1
    obtain ⟨y, e2⟩ := open_T47 _ _ _ h2
    obtain ⟨a5, e3, _, _⟩ := DataW.trod_int Try.underlying2 h3
    obtain ⟨a6, e4, _⟩ := DataW.trod_bool Try.underlying4 h4
    have e2 := k47_open e2
    simp at e0 e1 e2 e3 e4
    obtain ⟨e20, e21, e22⟩ := e2
    subst e0 e1 e20 e21 e22 e3 e4
    exact ⟨_, _, _, _, _, _, _, rfl⟩
set_option maxRecDepth 100000 in
/-- An op that is handed in. -/
theorem open_op {H : Type} {enc : TypeId × Value → H} {w : World} {r : Reach} {base b0 : Nat} {spare : Nat → Bool} {held : Bool} {v : Value} {d : DataW H} {p : List MemPlace} (hv : Value.okWide Try.prog w r b0 58 v) (h : DataW.Trod enc Try.prog w base spare held 58 v d p) :
    ∃ a0 a1 a2 a3 a4 a5 a6, v = .agg #[.int .i64 a0, .int .i64 a1, .int .i64 a2, .int .i64 a3, .int .i64 a4, .int .i64 a5, .bool a6] := by
  obtain ⟨cs, rfl, hsz⟩ := okWide_struct Try.underlying58 hv
  obtain ⟨fuel, hf⟩ := h
  obtain ⟨a0, a1, a2, a3, a4, a5, a6, e⟩ := open_T58 _ _ _ hf
  refine ⟨a0, a1, a2, a3, a4, a5, a6, ?_⟩
  congr 1
  exact Array.toList_inj.1 (by simpa [Value.cells] using e)
end Go.Proofs.Ytlddekjlmkimnaa.C
end
