import Derived.Test.YtlddekjlmkimnaaJ28
import Derived.Test.YtlddekjlmkimnaaHstart2
import Derived.Test.YtlddekjlmkimnaaJ23
section
namespace Go.Proofs.Ytlddekjlmkimnaa.C
open Go.RowKit Go.Proofs.YtlddekjlmkimnaaW.PrintWords Go.Proofs.YtlddekjlmkimnaaW.PrintLast Go.Proofs.YtlddekjlmkimnaaW.PrintMore
set_option linter.unusedVariables false
set_option linter.unusedSimpArgs false

set_option maxRecDepth 100000 in
set_option maxHeartbeats 2000000 in
/-- The alarms may not be. -/
theorem with_check (w : World) (now : Int) (A1 : Option Addr) (c1 : Nat) (ts : List S88) (A2 : Option Addr) (c2 : Nat) (rs : List S47) (own : Int) (fv : Value) (hr1 : Kd.C k88 w A1 ts.length ts) (hc1 : ts.length ≤ c1) (hr2 : Kd.C k47 w A2 rs.length rs) (hc2 : rs.length ≤ c2)
    (K : Nat) (ez : Int) (hck : vtimer_Check.f K now ts rs = some ez) (hz : ez ≠ 0) :
    Calls Try.prog 32 #[.agg #[.int .i64 now, .slice A1 ts.length c1, .slice A2 rs.length c2], .int .i64 own, fv] w fun e w' =>
      e = .returned (.tuple #[.agg #[.int .i64 0, .slice none 0 0, .slice none 0 0], .int .i64 ez]) ∧ Below w.heap.size w w' := by
  obtain ⟨W0, hW0⟩ : ∃ W0, (w.alloc (.cells #[.int .i64 now, .slice A1 ts.length c1, .slice A2 rs.length c2] 27)).alloc (.cells #[.int .i64 0, .slice none 0 0, .slice none 0 0] 27) = W0 := ⟨_, rfl⟩
  have hs0 : W0.heap.size = w.heap.size + 2 := by subst hW0; simp
  have hb0 : Below w.heap.size w W0 := by subst hW0; exact ((Below.refl _ w).alloc (Nat.le_refl _) _).alloc (by simp) _
  have k3 : W0.heap[w.heap.size]? = some (.cells #[.int .i64 now, .slice A1 ts.length c1, .slice A2 rs.length c2] 27 (0, 0)) := by subst hW0; exact blk_alloc (blk_new _ _) _
  have k6 : W0.heap[w.heap.size + 1]? = some (.cells #[.int .i64 0, .slice none 0 0, .slice none 0 0] 27 (0, 0)) := by
    have := blk_new (w.alloc (.cells #[.int .i64 now, .slice A1 ts.length c1, .slice A2 rs.length c2] 27)) (.cells #[.int .i64 0, .slice none 0 0, .slice none 0 0] 27)
    subst hW0; simpa using this
  have HCK := Lib.hid (fun W hb => vtimer_Check.calls K now A1 c1 ts A2 c2 rs ez W (Kd.C_below hr1 hb) hc1 (Kd.C_below hr2 hb) hc2 hck)
  have d0 : W0.cell? ⟨w.heap.size, 0, none⟩ = some (.int .i64 now) := (blk_cell k3 0).trans rfl
  have d1 : W0.cell? ⟨w.heap.size, 1, none⟩ = some (.slice A1 ts.length c1) := (blk_cell k3 1).trans rfl
  have d2 : W0.cell? ⟨w.heap.size, 2, none⟩ = some (.slice A2 rs.length c2) := (blk_cell k3 2).trans rfl
  have hz1 : (ez != 0) = true := by simpa using hz
  have HB0 := Lib.hid hb0
  have HK6 := Lib.hid k6
  clear hr1 hr2 hck hb0 k3 k6 hz
  go_enter Try.func32, Try.ntmps32
  go_wp2_with fail
  clear hW0
  refine (HCK.out _ HB0.out).mono ?_
  rintro e w2 ⟨rfl, hb2⟩
  have b8 := blk_below HK6.out hb2
  have p0 : w2.cell? ⟨w.heap.size + 1, 0, none⟩ = some (.int .i64 0) := (blk_cell b8 0).trans rfl
  have p1 : w2.cell? ⟨w.heap.size + 1, 1, none⟩ = some (.slice none 0 0) := (blk_cell b8 1).trans rfl
  have p2 : w2.cell? ⟨w.heap.size + 1, 2, none⟩ = some (.slice none 0 0) := (blk_cell b8 2).trans rfl
  have y0 := blk_frozen b8 0
  have y1 := blk_frozen b8 1
  have y2 := blk_frozen b8 2
  have HK8 := Lib.hid b8
  have HBB := Lib.hid (HB0.out.trans (hb2.mono (by omega)))
  clear b8 hb2 d0 d1 d2
  go_wp2
  have B1 := blk_put HK8.out 0 (.int .i64 0) (cs' := #[.int .i64 0, .slice none 0 0, .slice none 0 0]) rfl
  have B2 := blk_put B1 1 (.slice none 0 0) (cs' := #[.int .i64 0, .slice none 0 0, .slice none 0 0]) rfl
  have B3 := blk_put B2 2 (.slice none 0 0) (cs' := #[.int .i64 0, .slice none 0 0, .slice none 0 0]) rfl
  refine bodyPost_ret (results_ct rfl _ _ (w.heap.size + 1) 27 #[.int .i64 0, .slice none 0 0, .slice none 0 0] (0, 0) _ rfl B3 Try.underlying27 rfl (by kernel_rfl)) rfl ?_
  exact ⟨rfl, below_set (below_set (below_set HBB.out (by omega)) (by omega)) (by omega)⟩

set_option maxRecDepth 100000 in
set_option maxHeartbeats 2000000 in
/-- The virtual CPU may not be. -/
theorem with_vcpu (w : World) (now : Int) (A1 : Option Addr) (c1 : Nat) (ts : List S88) (A2 : Option Addr) (c2 : Nat) (rs : List S47) (own : Int) (fv : Value) (hr1 : Kd.C k88 w A1 ts.length ts) (hc1 : ts.length ≤ c1) (hr2 : Kd.C k47 w A2 rs.length rs) (hc2 : rs.length ≤ c2)
    (K : Nat) (hck : vtimer_Check.f K now ts rs = some 0) (hv : vtimer_vcpu.f own = some false) :
    Calls Try.prog 32 #[.agg #[.int .i64 now, .slice A1 ts.length c1, .slice A2 rs.length c2], .int .i64 own, fv] w fun e w' =>
      e = .returned (.tuple #[.agg #[.int .i64 0, .slice none 0 0, .slice none 0 0], .int .i64 2]) ∧ Below w.heap.size w w' := by
  obtain ⟨W0, hW0⟩ : ∃ W0, (w.alloc (.cells #[.int .i64 now, .slice A1 ts.length c1, .slice A2 rs.length c2] 27)).alloc (.cells #[.int .i64 0, .slice none 0 0, .slice none 0 0] 27) = W0 := ⟨_, rfl⟩
  have hs0 : W0.heap.size = w.heap.size + 2 := by subst hW0; simp
  have hb0 : Below w.heap.size w W0 := by subst hW0; exact ((Below.refl _ w).alloc (Nat.le_refl _) _).alloc (by simp) _
  have k3 : W0.heap[w.heap.size]? = some (.cells #[.int .i64 now, .slice A1 ts.length c1, .slice A2 rs.length c2] 27 (0, 0)) := by subst hW0; exact blk_alloc (blk_new _ _) _
  have k6 : W0.heap[w.heap.size + 1]? = some (.cells #[.int .i64 0, .slice none 0 0, .slice none 0 0] 27 (0, 0)) := by
    have := blk_new (w.alloc (.cells #[.int .i64 now, .slice A1 ts.length c1, .slice A2 rs.length c2] 27)) (.cells #[.int .i64 0, .slice none 0 0, .slice none 0 0] 27)
    subst hW0; simpa using this
  have HCK := Lib.hid (fun W hb => vtimer_Check.calls K now A1 c1 ts A2 c2 rs 0 W (Kd.C_below hr1 hb) hc1 (Kd.C_below hr2 hb) hc2 hck)
  have HV := Lib.hid (fun W => vtimer_vcpu.calls own false W hv)
  have d0 : W0.cell? ⟨w.heap.size, 0, none⟩ = some (.int .i64 now) := (blk_cell k3 0).trans rfl
  have d1 : W0.cell? ⟨w.heap.size, 1, none⟩ = some (.slice A1 ts.length c1) := (blk_cell k3 1).trans rfl
  have d2 : W0.cell? ⟨w.heap.size, 2, none⟩ = some (.slice A2 rs.length c2) := (blk_cell k3 2).trans rfl
  have HB0 := Lib.hid hb0
  have HK6 := Lib.hid k6
  clear hr1 hr2 hck hv hb0 k3 k6
  go_enter Try.func32, Try.ntmps32
  go_wp2_with fail
  clear hW0
  refine (HCK.out _ HB0.out).mono ?_
  rintro e w2 ⟨rfl, hb2⟩
  have b8 := blk_below HK6.out hb2
  have p0 : w2.cell? ⟨w.heap.size + 1, 0, none⟩ = some (.int .i64 0) := (blk_cell b8 0).trans rfl
  have p1 : w2.cell? ⟨w.heap.size + 1, 1, none⟩ = some (.slice none 0 0) := (blk_cell b8 1).trans rfl
  have p2 : w2.cell? ⟨w.heap.size + 1, 2, none⟩ = some (.slice none 0 0) := (blk_cell b8 2).trans rfl
  have y0 := blk_frozen b8 0
  have y1 := blk_frozen b8 1
  have y2 := blk_frozen b8 2
  have HK8 := Lib.hid b8
  have HBB := Lib.hid (HB0.out.trans (hb2.mono (by omega)))
  clear b8 hb2 d0 d1 d2
  go_wp2_with fail
  refine (HV.out _).mono ?_
  rintro e w3 ⟨rfl, hd⟩
  obtain ⟨n, rfl⟩ := hd
  go_wp2
  have B1 := blk_put (blk_drewN HK8.out n) 0 (.int .i64 0) (cs' := #[.int .i64 0, .slice none 0 0, .slice none 0 0]) rfl
  have B2 := blk_put B1 1 (.slice none 0 0) (cs' := #[.int .i64 0, .slice none 0 0, .slice none 0 0]) rfl
  have B3 := blk_put B2 2 (.slice none 0 0) (cs' := #[.int .i64 0, .slice none 0 0, .slice none 0 0]) rfl
  refine bodyPost_ret (results_ct rfl _ _ (w.heap.size + 1) 27 #[.int .i64 0, .slice none 0 0, .slice none 0 0] (0, 0) _ rfl B3 Try.underlying27 rfl (by kernel_rfl)) rfl ?_
  exact ⟨rfl, below_set (below_set (below_set (pw_below_drewN HBB.out n) (by omega)) (by omega)) (by omega)⟩
end Go.Proofs.Ytlddekjlmkimnaa.C
end
section
namespace Go.Proofs.Ytlddekjlmkimnaa.C
open Go.RowKit Go.Proofs.YtlddekjlmkimnaaW.PrintWords Go.Proofs.YtlddekjlmkimnaaW.PrintLast Go.Proofs.YtlddekjlmkimnaaW.PrintMore
set_option linter.unusedVariables false
set_option linter.unusedSimpArgs false

theorem bsGoA_le (l : List S47) (x : Int) (n : Nat) : ∀ i j, j - i = n → i ≤ j → bsGoA l x i j ≤ j ∧ i ≤ bsGoA l x i j := by
  induction n using Nat.strongRecOn with
  | ind n ih =>
    intro i j hn hij
    by_cases h : i < j
    · rw [bsGoA_at _ _ _ _ h]
      split
      · have := ih (j - ((i + j) / 2 + 1)) (by omega) ((i + j) / 2 + 1) j rfl (by omega)
        omega
      · have := ih ((i + j) / 2 - i) (by omega) i ((i + j) / 2) rfl (by omega)
        omega
    · rw [bsGoA_end _ _ _ _ h]; omega
theorem bsA_le (l : List S47) (x : Int) : bsA l x ≤ l.length := (bsGoA_le l x l.length 0 l.length (by omega) (by omega)).1
theorem thereA_lt {l : List S47} {x : Int} (h : thereA l x = true) : bsA l x < l.length := by
  unfold thereA at h
  simp only [Bool.and_eq_true, decide_eq_true_eq] at h
  exact h.1

/-- What vtimer.Start answers. -/
def startF (now : Int) (ts : List S88) (rs : List S47) (x : S47) (when' : Int) : Int × List S88 × List S47 × Int :=
  if okAl now ts rs = true then
    (if vcpuB x.f0 = true then
      (if okA x = true then
        (if (setF now ts (x.f0 - 1) when').2.2 = 0 then ((setF now ts (x.f0 - 1) when').1, (setF now ts (x.f0 - 1) when').2.1, putA rs (bsA rs x.f0) (thereA rs x.f0) x, 0) else (0, [], [], 2))
      else (0, [], [], 2))
    else (0, [], [], 2))
  else (0, [], [], 280)
def vtimer_Start.f (a0_0 : Int) (l0_1 : List (S88)) (l0_2 : List (S47)) (a1_0 : Int) (a1_1 : Int) (a1_2 : Int) (a2 : Int) : Option (Int × (List (S88)) × (List (S47)) × Int) :=
  if l0_1.length ≤ 999999 ∧ l0_2.length ≤ 999999 then some (startF a0_0 l0_1 l0_2 ⟨a1_0, a1_1, a1_2⟩ a2) else none

/-- The call of 'with' that Start makes. -/
theorem start_with (w : World) (now : Int) (A1 : Option Addr) (c1 : Nat) (ts : List S88) (A2 : Option Addr) (c2 : Nat) (rs : List S47) (x : S47) (when' : Int) (p q : Nat) (hr1 : Kd.C k88 w A1 ts.length ts) (hc1 : ts.length ≤ c1) (hr2 : Kd.C k47 w A2 rs.length rs) (hc2 : rs.length ≤ c2)
    (hn1 : ts.length ≤ 999999) (hn2 : rs.length ≤ 999999) (hC : Capt w p q x when') :
    Calls Try.prog 32 #[.agg #[.int .i64 now, .slice A1 ts.length c1, .slice A2 rs.length c2], .int .i64 x.f0, .func (.func 48) #[] #[.pointer (some ⟨p, 0, none⟩), .pointer (some ⟨q, 0, none⟩)]] w fun e w' =>
      ∃ v1 v2, e = .returned (.tuple #[.agg #[.int .i64 (startF now ts rs x when').1, v1, v2], .int .i64 (startF now ts rs x when').2.2.2]) ∧ Kd.R k88 88 w' w.heap.size (fun _ => True) v1 (startF now ts rs x when').2.1 ∧ Kd.R k47 47 w' w.heap.size (fun _ => True) v2 (startF now ts rs x when').2.2.1 ∧ Below w.heap.size w w' := by
  have hck := chk_k now ts rs (by omega) (by omega) (rs.length + ts.length + 31) (by omega)
  have hC' : ∀ w0, Below w.heap.size w w0 → Capt w0 p q x when' := fun w0 hb => ⟨blk_below hC.hp hb, blk_below hC.hq hb⟩
  unfold startF
  cases hal : okAl now ts rs with
  | false =>
    rw [hal] at hck
    refine (with_check w now A1 c1 ts A2 c2 rs x.f0 _ hr1 hc1 hr2 hc2 _ 280 hck (by decide)).mono ?_
    rintro e w' ⟨rfl, hb⟩
    exact ⟨_, _, rfl, Kd.R_nil _ _ _ _ _, Kd.R_nil _ _ _ _ _, hb⟩
  | true =>
    rw [hal] at hck
    simp only [if_true] at hck ⊢
    cases hv : vcpuB x.f0 with
    | false =>
      refine (with_vcpu w now A1 c1 ts A2 c2 rs x.f0 _ hr1 hc1 hr2 hc2 _ hck (by rw [vcpu_f, hv])).mono ?_
      rintro e w' ⟨rfl, hb⟩
      exact ⟨_, _, rfl, Kd.R_nil _ _ _ _ _, Kd.R_nil _ _ _ _ _, hb⟩
    | true =>
      simp only [if_true]
      have hv' : 1 ≤ x.f0 ∧ x.f0 ≤ 16 := by simpa [vcpuB] using hv
      have hid := alarmed_f x.f0 hv'.1 hv'.2
      have hset := set_k now ts (x.f0 - 1) when' hn1 (ts.length + 2) (Nat.le_refl _)
      have W := fun (ez now' : Int) (ts' : List S88) (rs' : List S47) HC => with48 w now A1 c1 ts A2 c2 rs x.f0 p q hr1 hc1 hr2 hc2 hn1 hn2 _ hck (by rw [vcpu_f, hv]) (fun _ => False) (fun _ => True) ez now' ts' rs' HC (fun _ h => h.elim) (fun _ _ _ _ => trivial)
      cases ha : okA x with
      | false =>
        refine (W 2 0 [] [] (fun w0 W g sv rv _ hb0 hb1 hao => ?_)).mono ?_
        · refine (start1_no w0 W g p q x when' hb1 (hC' w0 hb0) (by rw [alarm_f, ha])).mono ?_
          rintro e w' ⟨rfl, hb⟩
          exact ⟨rfl, BB.of hb, fun h => by cases h⟩
        · rintro e w' ⟨v1, v2, rfl, h1, h2, hb, -⟩
          exact ⟨v1, v2, rfl, h1, h2, hb.out⟩
      | true =>
        simp only [if_true]
        by_cases hz : (setF now ts (x.f0 - 1) when').2.2 = 0
        · rw [if_pos hz]
          have hset0 : wheel_Set.f (ts.length + 2) now ts (x.f0 - 1) when' = some ((setF now ts (x.f0 - 1) when').1, (setF now ts (x.f0 - 1) when').2.1, 0) := by rw [hset, ← hz]
          refine (W 0 (setF now ts (x.f0 - 1) when').1 (setF now ts (x.f0 - 1) when').2.1 (putA rs (bsA rs x.f0) (thereA rs x.f0) x) (fun w0 W g sv rv _ hb0 hb1 hao => ?_)).mono ?_
          · obtain ⟨A, c, hrv, -, -⟩ := Kd.R_reads hao.A
            have hat := atA_f rs x.f0 (by omega)
            cases ht : thereA rs x.f0 with
            | true =>
              rw [ht] at hat
              refine (start1_there w0 W g p q now ts rs sv rv x when' hb1 (hC' w0 hb0) hao (by rw [alarm_f, ha]) _ hid _ _ _ A c hrv hset0 (bsA rs x.f0) hn2 (thereA_lt ht) hat).mono ?_
              rintro e w' ⟨rfl, hb, hx⟩
              exact ⟨rfl, BB.of hb, fun _ => ⟨hx, trivial⟩⟩
            | false =>
              rw [ht] at hat
              refine (start1_new w0 W g p q now ts rs sv rv x when' hb1 (hC' w0 hb0) hao (by rw [alarm_f, ha]) _ hid _ _ _ A c hrv hset0 (bsA rs x.f0) hn2 (bsA_le _ _) hat).mono ?_
              rintro e w' ⟨rfl, hb, hx⟩
              exact ⟨rfl, BB.of hb, fun _ => ⟨hx, trivial⟩⟩
          · rintro e w' ⟨v1, v2, rfl, h1, h2, hb, -⟩
            exact ⟨v1, v2, rfl, h1, h2, hb.out⟩
        · rw [if_neg hz]
          refine (W 2 0 [] [] (fun w0 W g sv rv _ hb0 hb1 hao => ?_)).mono ?_
          · refine (start1_bad w0 W g p q now ts rs sv rv x when' hb1 (hC' w0 hb0) hao (by rw [alarm_f, ha]) _ hid _ _ _ _ hset hz).mono ?_
            rintro e w' ⟨rfl, hb⟩
            exact ⟨rfl, BB.of hb, fun h => by cases h⟩
          · rintro e w' ⟨v1, v2, rfl, h1, h2, hb, -⟩
            exact ⟨v1, v2, rfl, h1, h2, hb.out⟩

set_option maxRecDepth 100000 in
set_option maxHeartbeats 2000000 in
theorem vtimer_Start.calls (a0_0 : Int) (A0_1 : Option Addr) (c0_1 : Nat) (l0_1 : List (S88)) (A0_2 : Option Addr) (c0_2 : Nat) (l0_2 : List (S47)) (a1_0 : Int) (a1_1 : Int) (a1_2 : Int) (a2 : Int) (r1 : Int) (r2 : List (S88)) (r3 : List (S47)) (r4 : Int) (w : World) (hr0_1 : Kd.C k88 w A0_1 l0_1.length l0_1) (hc0_1 : l0_1.length ≤ c0_1) (hr0_2 : Kd.C k47 w A0_2 l0_2.length l0_2) (hc0_2 : l0_2.length ≤ c0_2) (h : vtimer_Start.f a0_0 l0_1 l0_2 a1_0 a1_1 a1_2 a2 = some (r1, r2, r3, r4)) :
    Calls Try.prog 21 #[.agg #[.int .i64 a0_0, .slice A0_1 l0_1.length c0_1, .slice A0_2 l0_2.length c0_2], .agg #[.int .i64 a1_0, .int .i64 a1_1, .int .i64 a1_2], .int .i64 a2] w fun e w' => ∃ v1_ v2_ : Value, e = .returned (.tuple #[.agg #[.int .i64 r1, v1_, v2_], .int .i64 r4]) ∧ Kd.R k88 88 w' w.heap.size (fun _ => True) v1_ r2 ∧ Kd.R k47 47 w' w.heap.size (fun _ => True) v2_ r3 ∧ Below w.heap.size w w' := by
  unfold vtimer_Start.f at h
  split at h
  rotate_left
  · cases h
  rename_i hn
  obtain ⟨hn1, hn2⟩ := hn
  have h : startF a0_0 l0_1 l0_2 ⟨a1_0, a1_1, a1_2⟩ a2 = (r1, r2, r3, r4) := Option.some.inj h
  obtain ⟨W0, hW0⟩ : ∃ W0, (((w.alloc (.cells #[.int .i64 a0_0, .slice A0_1 l0_1.length c0_1, .slice A0_2 l0_2.length c0_2] 27)).alloc (.cells #[.int .i64 a1_0, .int .i64 a1_1, .int .i64 a1_2] 47)).alloc (.cells #[.int .i64 a2] 2)).alloc (.cells #[.int .i64 0, .slice none 0 0, .slice none 0 0] 27) = W0 := ⟨_, rfl⟩
  have hs0 : W0.heap.size = w.heap.size + 4 := by subst hW0; simp
  have hb0 : Below w.heap.size w W0 := by subst hW0; exact ((((Below.refl _ w).alloc (Nat.le_refl _) _).alloc (by simp) _).alloc (by simp; omega) _).alloc (by simp; omega) _
  have k3 : W0.heap[w.heap.size]? = some (.cells #[.int .i64 a0_0, .slice A0_1 l0_1.length c0_1, .slice A0_2 l0_2.length c0_2] 27 (0, 0)) := by subst hW0; exact blk_alloc (blk_alloc (blk_alloc (blk_new _ _) _) _) _
  have k4 : W0.heap[w.heap.size + 1]? = some (.cells #[.int .i64 a1_0, .int .i64 a1_1, .int .i64 a1_2] 47 (0, 0)) := by
    have := blk_new (w.alloc (.cells #[.int .i64 a0_0, .slice A0_1 l0_1.length c0_1, .slice A0_2 l0_2.length c0_2] 27)) (.cells #[.int .i64 a1_0, .int .i64 a1_1, .int .i64 a1_2] 47)
    rw [World.size_alloc] at this
    subst hW0; exact blk_alloc (blk_alloc this _) _
  have k5 : W0.heap[w.heap.size + 1 + 1]? = some (.cells #[.int .i64 a2] 2 (0, 0)) := by
    have := blk_new ((w.alloc (.cells #[.int .i64 a0_0, .slice A0_1 l0_1.length c0_1, .slice A0_2 l0_2.length c0_2] 27)).alloc (.cells #[.int .i64 a1_0, .int .i64 a1_1, .int .i64 a1_2] 47)) (.cells #[.int .i64 a2] 2)
    rw [World.size_alloc, World.size_alloc] at this
    subst hW0; exact blk_alloc this _
  have k6 : W0.heap[w.heap.size + 1 + 1 + 1]? = some (.cells #[.int .i64 0, .slice none 0 0, .slice none 0 0] 27 (0, 0)) := by
    have := blk_new (((w.alloc (.cells #[.int .i64 a0_0, .slice A0_1 l0_1.length c0_1, .slice A0_2 l0_2.length c0_2] 27)).alloc (.cells #[.int .i64 a1_0, .int .i64 a1_1, .int .i64 a1_2] 47)).alloc (.cells #[.int .i64 a2] 2)) (.cells #[.int .i64 0, .slice none 0 0, .slice none 0 0] 27)
    rw [World.size_alloc, World.size_alloc, World.size_alloc] at this
    subst hW0; exact this
  have hst := start_with W0 a0_0 A0_1 c0_1 l0_1 A0_2 c0_2 l0_2 ⟨a1_0, a1_1, a1_2⟩ a2 (w.heap.size + 1) (w.heap.size + 1 + 1) (Kd.C_below hr0_1 hb0) hc0_1 (Kd.C_below hr0_2 hb0) hc0_2 hn1 hn2 ⟨k4, k5⟩
  rw [h] at hst
  have d0 : W0.cell? ⟨w.heap.size, 0, none⟩ = some (.int .i64 a0_0) := (blk_cell k3 0).trans rfl
  have d1 : W0.cell? ⟨w.heap.size, 1, none⟩ = some (.slice A0_1 l0_1.length c0_1) := (blk_cell k3 1).trans rfl
  have d2 : W0.cell? ⟨w.heap.size, 2, none⟩ = some (.slice A0_2 l0_2.length c0_2) := (blk_cell k3 2).trans rfl
  have d3 : W0.cell? ⟨w.heap.size + 1, 0, none⟩ = some (.int .i64 a1_0) := (blk_cell k4 0).trans rfl
  have HST := Lib.hid hst
  have HB0 := Lib.hid hb0
  have HK6 := Lib.hid k6
  clear hst h hr0_1 hr0_2 hb0 k3 k4 k5 k6
  go_enter Try.func21, Try.ntmps21
  go_wp2_with fail
  clear hW0
  refine (HST.out).mono ?_
  rintro e w2 ⟨v1, v2, rfl, h1, h2, hb2⟩
  obtain ⟨B1, d1, e1⟩ := Kd.R_slice h1
  obtain ⟨B2, d2, e2⟩ := Kd.R_slice h2
  subst e1
  subst e2
  have b8 := blk_below HK6.out hb2
  have p0 : w2.cell? ⟨w.heap.size + 1 + 1 + 1, 0, none⟩ = some (.int .i64 0) := (blk_cell b8 0).trans rfl
  have p1 : w2.cell? ⟨w.heap.size + 1 + 1 + 1, 1, none⟩ = some (.slice none 0 0) := (blk_cell b8 1).trans rfl
  have p2 : w2.cell? ⟨w.heap.size + 1 + 1 + 1, 2, none⟩ = some (.slice none 0 0) := (blk_cell b8 2).trans rfl
  have y0 := blk_frozen b8 0
  have y1 := blk_frozen b8 1
  have y2 := blk_frozen b8 2
  have HK8 := Lib.hid b8
  have HBB := Lib.hid (HB0.out.trans (hb2.mono (by omega)))
  have HT := Lib.hid h1
  have HA := Lib.hid h2
  clear b8 hb2 h1 h2
  go_wp2
  have X1 := blk_put HK8.out 0 (.int .i64 r1) (cs' := #[.int .i64 r1, .slice none 0 0, .slice none 0 0]) rfl
  have X2 := blk_put X1 1 (.slice B1 r2.length d1) (cs' := #[.int .i64 r1, .slice B1 r2.length d1, .slice none 0 0]) rfl
  have X3 := blk_put X2 2 (.slice B2 r3.length d2) (cs' := #[.int .i64 r1, .slice B1 r2.length d1, .slice B2 r3.length d2]) rfl
  refine bodyPost_ret (results_ct rfl _ _ (w.heap.size + 1 + 1 + 1) 27 #[.int .i64 r1, .slice B1 r2.length d1, .slice B2 r3.length d2] (0, 0) _ rfl X3 Try.underlying27 rfl (by kernel_rfl)) rfl ?_
  refine ⟨_, _, rfl, ?_, ?_, below_set (below_set (below_set HBB.out (by omega)) (by omega)) (by omega)⟩
  · exact Kd.R_lower (Kd.R_mono (Kd.R_far (p := ⟨w.heap.size + 1 + 1 + 1, 2, none⟩) (Kd.R_far (p := ⟨w.heap.size + 1 + 1 + 1, 1, none⟩) (Kd.R_far (p := ⟨w.heap.size + 1 + 1 + 1, 0, none⟩) (Kd.R_types HT.out HK8.out (by decide)) (fun k hk => hk.2) _) (fun k hk => hk.2) _) (fun k hk => hk.2) _) (fun _ _ => trivial)) (by omega)
  · exact Kd.R_lower (Kd.R_mono (Kd.R_far (p := ⟨w.heap.size + 1 + 1 + 1, 2, none⟩) (Kd.R_far (p := ⟨w.heap.size + 1 + 1 + 1, 1, none⟩) (Kd.R_far (p := ⟨w.heap.size + 1 + 1 + 1, 0, none⟩) (Kd.R_types HA.out HK8.out (by decide)) (fun k hk => hk.2) _) (fun k hk => hk.2) _) (fun k hk => hk.2) _) (fun _ _ => trivial)) (by omega)
end Go.Proofs.Ytlddekjlmkimnaa.C
end
