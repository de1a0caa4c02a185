import Derived.Test.YtlddekjlmkimnaaJ39
import Derived.Test.YtlddekjlmkimnaaHwith51
import Derived.Test.YtlddekjlmkimnaaHwith54
import Derived.Test.YtlddekjlmkimnaaJ42
import Derived.Test.YtlddekjlmkimnaaJ29
namespace Go.Proofs.Ytlddekjlmkimnaa.C
open Go.RowKit Go.Proofs.YtlddekjlmkimnaaW.PrintWords Go.Proofs.YtlddekjlmkimnaaW.PrintLast Go.Proofs.YtlddekjlmkimnaaW.PrintMore
set_option linter.unusedVariables false
set_option linter.unusedSimpArgs false

/-- What vtimer.Stop answers. -/
def stopF (now : Int) (ts : List S88) (rs : List S47) (own : Int) : Int × List S88 × List S47 × Int :=
  if okAl now ts rs = true then
    (if vcpuB own = true then
      (if (cancelF now ts (own - 1)).2.2 = 0 then ((cancelF now ts (own - 1)).1, (cancelF now ts (own - 1)).2.1, rs.filter (fun x => !(x.f0 == own)), 0) else (0, [], [], (cancelF now ts (own - 1)).2.2))
    else (0, [], [], 2))
  else (0, [], [], 280)
def vtimer_Stop.f (a0_0 : Int) (l0_1 : List (S88)) (l0_2 : List (S47)) (a1 : Int) : Option (Int × (List (S88)) × (List (S47)) × Int) :=
  if l0_1.length ≤ 999999 ∧ l0_2.length ≤ 999999 then some (stopF a0_0 l0_1 l0_2 a1) else none
/-- What vtimer.Wake answers. -/
def wakeF (now : Int) (ts : List S88) (rs : List S47) (own : Int) : Int × List S88 × List S47 × Int :=
  if okAl now ts rs = true then
    (if vcpuB own = true then
      (if (cancelF now ts (15 + own)).2.2 = 0 then ((cancelF now ts (15 + own)).1, (cancelF now ts (15 + own)).2.1, rs, 0) else (0, [], [], (cancelF now ts (15 + own)).2.2))
    else (0, [], [], 2))
  else (0, [], [], 280)
def vtimer_Wake.f (a0_0 : Int) (l0_1 : List (S88)) (l0_2 : List (S47)) (a1 : Int) : Option (Int × (List (S88)) × (List (S47)) × Int) :=
  if l0_1.length ≤ 999999 ∧ l0_2.length ≤ 999999 then some (wakeF a0_0 l0_1 l0_2 a1) else none
/-- What vtimer.Sleep answers. -/
def sleepF (now : Int) (ts : List S88) (rs : List S47) (own : Int) (until_ : Int) : Int × List S88 × List S47 × Int :=
  if okAl now ts rs = true then
    (if vcpuB own = true then
      (if (setF now ts (15 + own) until_).2.2 = 0 then ((setF now ts (15 + own) until_).1, (setF now ts (15 + own) until_).2.1, rs, 0) else (0, [], [], (setF now ts (15 + own) until_).2.2))
    else (0, [], [], 2))
  else (0, [], [], 280)
def vtimer_Sleep.f (a0_0 : Int) (l0_1 : List (S88)) (l0_2 : List (S47)) (a1 : Int) (a2 : Int) : Option (Int × (List (S88)) × (List (S47)) × Int) :=
  if l0_1.length ≤ 999999 ∧ l0_2.length ≤ 999999 then some (sleepF a0_0 l0_1 l0_2 a1 a2) else none

theorem stop_with (w : World) (now : Int) (A1 : Option Addr) (c1 : Nat) (ts : List S88) (A2 : Option Addr) (c2 : Nat) (rs : List S47) (own : Int) (p : Nat) (hr1 : Kd.C k88 w A1 ts.length ts) (hc1 : ts.length ≤ c1) (hr2 : Kd.C k47 w A2 rs.length rs) (hc2 : rs.length ≤ c2)
    (hn1 : ts.length ≤ 999999) (hn2 : rs.length ≤ 999999) (hp : w.heap[p]? = some (.cells #[.int .i64 own] 3 (0, 0))) :
    Calls Try.prog 32 #[.agg #[.int .i64 now, .slice A1 ts.length c1, .slice A2 rs.length c2], .int .i64 own, .func (.func 51) #[] #[.pointer (some ⟨p, 0, none⟩)]] w fun e w' =>
      ∃ v1 v2, e = .returned (.tuple #[.agg #[.int .i64 (stopF now ts rs own).1, v1, v2], .int .i64 (stopF now ts rs own).2.2.2]) ∧ Kd.R k88 88 w' w.heap.size (fun _ => True) v1 (stopF now ts rs own).2.1 ∧ Kd.R k47 47 w' w.heap.size (fun _ => True) v2 (stopF now ts rs own).2.2.1 ∧ Below w.heap.size w w' := by
  have hck := chk_k now ts rs (by omega) (by omega) (rs.length + ts.length + 31) (by omega)
  unfold stopF
  cases hal : okAl now ts rs with
  | false =>
    rw [hal] at hck
    refine (with_check w now A1 c1 ts A2 c2 rs own _ hr1 hc1 hr2 hc2 _ 280 hck (by decide)).mono ?_
    rintro e w' ⟨rfl, hb⟩
    exact ⟨_, _, rfl, Kd.R_nil _ _ _ _ _, Kd.R_nil _ _ _ _ _, hb⟩
  | true =>
    rw [hal] at hck
    simp only [if_true] at hck ⊢
    cases hv : vcpuB own with
    | false =>
      refine (with_vcpu w now A1 c1 ts A2 c2 rs own _ hr1 hc1 hr2 hc2 _ hck (by rw [vcpu_f, hv])).mono ?_
      rintro e w' ⟨rfl, hb⟩
      exact ⟨_, _, rfl, Kd.R_nil _ _ _ _ _, Kd.R_nil _ _ _ _ _, hb⟩
    | true =>
      simp only [if_true]
      have hv' : 1 ≤ own ∧ own ≤ 16 := by simpa [vcpuB] using hv
      have hid := alarmed_f own hv'.1 hv'.2
      have hset : wheel_Cancel.f (ts.length + 2) now ts (own - 1) = some ((cancelF now ts (own - 1)).1, (cancelF now ts (own - 1)).2.1, (cancelF now ts (own - 1)).2.2) := cancel_k now ts (own - 1) hn1 (ts.length + 2) (Nat.le_refl _)
      have W := fun (ez now' : Int) (ts' : List S88) (rs' : List S47) HC => with51 w now A1 c1 ts A2 c2 rs own p hr1 hc1 hr2 hc2 hn1 hn2 _ hck (by rw [vcpu_f, hv]) (fun _ => False) (fun _ => True) ez now' ts' rs' HC (fun _ h => h.elim) (fun _ _ _ _ => trivial)
      refine (W (cancelF now ts (own - 1)).2.2 (cancelF now ts (own - 1)).1 (cancelF now ts (own - 1)).2.1 (rs.filter (fun x => !(x.f0 == own))) (fun w0 W g sv rv hs0 hb0 hb1 hao => ?_)).mono ?_
      · refine (stop1 w0 W g now ts rs sv rv hb1 hao (by omega) own _ p (blk_below (blk_below hp hb0) hb1) (Or.inr trivial) hid _ _ _ _ hset (fun W1 hb => blk_below (blk_below hp hb0) hb)).mono ?_
        rintro e w' ⟨rfl, hb, hx⟩
        refine ⟨rfl, BB.of hb, fun hz => ⟨?_, trivial⟩⟩
        obtain ⟨sv', rv', hx⟩ := hx
        simp only [sel, if_pos hz] at hx
        exact ⟨sv', rv', hx⟩
      · rintro e w' ⟨v1, v2, rfl, h1, h2, hb, -⟩
        by_cases hz : (cancelF now ts (own - 1)).2.2 = 0
        · rw [if_pos hz]
          simp only [hz, sel, if_true] at h1 h2 ⊢
          exact ⟨v1, v2, rfl, h1, h2, hb.out⟩
        · rw [if_neg hz]
          simp only [sel, if_neg hz] at h1 h2 ⊢
          exact ⟨v1, v2, rfl, h1, h2, hb.out⟩

theorem wake_with (w : World) (now : Int) (A1 : Option Addr) (c1 : Nat) (ts : List S88) (A2 : Option Addr) (c2 : Nat) (rs : List S47) (own : Int) (p : Nat) (hr1 : Kd.C k88 w A1 ts.length ts) (hc1 : ts.length ≤ c1) (hr2 : Kd.C k47 w A2 rs.length rs) (hc2 : rs.length ≤ c2)
    (hn1 : ts.length ≤ 999999) (hn2 : rs.length ≤ 999999) (hp : w.heap[p]? = some (.cells #[.int .i64 own] 3 (0, 0))) :
    Calls Try.prog 32 #[.agg #[.int .i64 now, .slice A1 ts.length c1, .slice A2 rs.length c2], .int .i64 own, .func (.func 55) #[] #[.pointer (some ⟨p, 0, none⟩)]] w fun e w' =>
      ∃ v1 v2, e = .returned (.tuple #[.agg #[.int .i64 (wakeF now ts rs own).1, v1, v2], .int .i64 (wakeF now ts rs own).2.2.2]) ∧ Kd.R k88 88 w' w.heap.size (fun _ => True) v1 (wakeF now ts rs own).2.1 ∧ Kd.R k47 47 w' w.heap.size (fun _ => True) v2 (wakeF now ts rs own).2.2.1 ∧ Below w.heap.size w w' := by
  have hck := chk_k now ts rs (by omega) (by omega) (rs.length + ts.length + 31) (by omega)
  unfold wakeF
  cases hal : okAl now ts rs with
  | false =>
    rw [hal] at hck
    refine (with_check w now A1 c1 ts A2 c2 rs own _ hr1 hc1 hr2 hc2 _ 280 hck (by decide)).mono ?_
    rintro e w' ⟨rfl, hb⟩
    exact ⟨_, _, rfl, Kd.R_nil _ _ _ _ _, Kd.R_nil _ _ _ _ _, hb⟩
  | true =>
    rw [hal] at hck
    simp only [if_true] at hck ⊢
    cases hv : vcpuB own with
    | false =>
      refine (with_vcpu w now A1 c1 ts A2 c2 rs own _ hr1 hc1 hr2 hc2 _ hck (by rw [vcpu_f, hv])).mono ?_
      rintro e w' ⟨rfl, hb⟩
      exact ⟨_, _, rfl, Kd.R_nil _ _ _ _ _, Kd.R_nil _ _ _ _ _, hb⟩
    | true =>
      simp only [if_true]
      have hv' : 1 ≤ own ∧ own ≤ 16 := by simpa [vcpuB] using hv
      have hid := asleep_v own hv'.1 hv'.2
      have hset : wheel_Cancel.f (ts.length + 2) now ts (15 + own) = some ((cancelF now ts (15 + own)).1, (cancelF now ts (15 + own)).2.1, (cancelF now ts (15 + own)).2.2) := cancel_k now ts (15 + own) hn1 (ts.length + 2) (Nat.le_refl _)
      have W := fun (ez now' : Int) (ts' : List S88) (rs' : List S47) HC => with55 w now A1 c1 ts A2 c2 rs own p hr1 hc1 hr2 hc2 hn1 hn2 _ hck (by rw [vcpu_f, hv]) (fun _ => False) (fun _ => True) ez now' ts' rs' HC (fun _ h => h.elim) (fun _ _ _ _ => trivial)
      refine (W (cancelF now ts (15 + own)).2.2 (cancelF now ts (15 + own)).1 (cancelF now ts (15 + own)).2.1 rs (fun w0 W g sv rv hs0 hb0 hb1 hao => ?_)).mono ?_
      · refine (wake1 w0 W g now ts rs sv rv hb1 hao own _ p (blk_below (blk_below hp hb0) hb1) hid _ _ _ _ hset).mono ?_
        rintro e w' ⟨rfl, hb, hx⟩
        refine ⟨rfl, BB.of hb, fun hz => ⟨?_, trivial⟩⟩
        obtain ⟨sv', hx⟩ := hx
        simp only [sel, if_pos hz] at hx
        exact ⟨sv', _, hx⟩
      · rintro e w' ⟨v1, v2, rfl, h1, h2, hb, -⟩
        by_cases hz : (cancelF now ts (15 + own)).2.2 = 0
        · rw [if_pos hz]
          simp only [hz, sel, if_true] at h1 h2 ⊢
          exact ⟨v1, v2, rfl, h1, h2, hb.out⟩
        · rw [if_neg hz]
          simp only [sel, if_neg hz] at h1 h2 ⊢
          exact ⟨v1, v2, rfl, h1, h2, hb.out⟩

theorem sleep_with (w : World) (now : Int) (A1 : Option Addr) (c1 : Nat) (ts : List S88) (A2 : Option Addr) (c2 : Nat) (rs : List S47) (own : Int) (until_ : Int) (p q : Nat) (hr1 : Kd.C k88 w A1 ts.length ts) (hc1 : ts.length ≤ c1) (hr2 : Kd.C k47 w A2 rs.length rs) (hc2 : rs.length ≤ c2)
    (hn1 : ts.length ≤ 999999) (hn2 : rs.length ≤ 999999) (hp : w.heap[p]? = some (.cells #[.int .i64 own] 3 (0, 0))) (hq : w.heap[q]? = some (.cells #[.int .i64 until_] 2 (0, 0))) :
    Calls Try.prog 32 #[.agg #[.int .i64 now, .slice A1 ts.length c1, .slice A2 rs.length c2], .int .i64 own, .func (.func 54) #[] #[.pointer (some ⟨p, 0, none⟩), .pointer (some ⟨q, 0, none⟩)]] w fun e w' =>
      ∃ v1 v2, e = .returned (.tuple #[.agg #[.int .i64 (sleepF now ts rs own until_).1, v1, v2], .int .i64 (sleepF now ts rs own until_).2.2.2]) ∧ Kd.R k88 88 w' w.heap.size (fun _ => True) v1 (sleepF now ts rs own until_).2.1 ∧ Kd.R k47 47 w' w.heap.size (fun _ => True) v2 (sleepF now ts rs own until_).2.2.1 ∧ Below w.heap.size w w' := by
  have hck := chk_k now ts rs (by omega) (by omega) (rs.length + ts.length + 31) (by omega)
  unfold sleepF
  cases hal : okAl now ts rs with
  | false =>
    rw [hal] at hck
    refine (with_check w now A1 c1 ts A2 c2 rs own _ hr1 hc1 hr2 hc2 _ 280 hck (by decide)).mono ?_
    rintro e w' ⟨rfl, hb⟩
    exact ⟨_, _, rfl, Kd.R_nil _ _ _ _ _, Kd.R_nil _ _ _ _ _, hb⟩
  | true =>
    rw [hal] at hck
    simp only [if_true] at hck ⊢
    cases hv : vcpuB own with
    | false =>
      refine (with_vcpu w now A1 c1 ts A2 c2 rs own _ hr1 hc1 hr2 hc2 _ hck (by rw [vcpu_f, hv])).mono ?_
      rintro e w' ⟨rfl, hb⟩
      exact ⟨_, _, rfl, Kd.R_nil _ _ _ _ _, Kd.R_nil _ _ _ _ _, hb⟩
    | true =>
      simp only [if_true]
      have hv' : 1 ≤ own ∧ own ≤ 16 := by simpa [vcpuB] using hv
      have hid := asleep_v own hv'.1 hv'.2
      have hset : wheel_Set.f (ts.length + 2) now ts (15 + own) until_ = some ((setF now ts (15 + own) until_).1, (setF now ts (15 + own) until_).2.1, (setF now ts (15 + own) until_).2.2) := set_k now ts (15 + own) until_ hn1 (ts.length + 2) (Nat.le_refl _)
      have W := fun (ez now' : Int) (ts' : List S88) (rs' : List S47) HC => with54 w now A1 c1 ts A2 c2 rs own p q hr1 hc1 hr2 hc2 hn1 hn2 _ hck (by rw [vcpu_f, hv]) (fun _ => False) (fun _ => True) ez now' ts' rs' HC (fun _ h => h.elim) (fun _ _ _ _ => trivial)
      refine (W (setF now ts (15 + own) until_).2.2 (setF now ts (15 + own) until_).1 (setF now ts (15 + own) until_).2.1 rs (fun w0 W g sv rv hs0 hb0 hb1 hao => ?_)).mono ?_
      · refine (sleep1 w0 W g p q now ts rs sv rv hb1 hao own _ until_ (fun W1 hb => ⟨(blk_cell (blk_below (blk_below hp hb0) hb) 0).trans rfl, (blk_cell (blk_below (blk_below hq hb0) hb) 0).trans rfl⟩) hid _ _ _ _ hset).mono ?_
        rintro e w' ⟨rfl, hb, hx⟩
        refine ⟨rfl, BB.of hb, fun hz => ⟨?_, trivial⟩⟩
        obtain ⟨sv', hx⟩ := hx
        simp only [sel, if_pos hz] at hx
        exact ⟨sv', _, hx⟩
      · rintro e w' ⟨v1, v2, rfl, h1, h2, hb, -⟩
        by_cases hz : (setF now ts (15 + own) until_).2.2 = 0
        · rw [if_pos hz]
          simp only [hz, sel, if_true] at h1 h2 ⊢
          exact ⟨v1, v2, rfl, h1, h2, hb.out⟩
        · rw [if_neg hz]
          simp only [sel, if_neg hz] at h1 h2 ⊢
          exact ⟨v1, v2, rfl, h1, h2, hb.out⟩

set_option maxRecDepth 100000 in
set_option maxHeartbeats 2000000 in
theorem vtimer_Stop.calls (a0_0 : Int) (A0_1 : Option Addr) (c0_1 : Nat) (l0_1 : List (S88)) (A0_2 : Option Addr) (c0_2 : Nat) (l0_2 : List (S47)) (a1 : Int) (r1 : Int) (r2 : List (S88)) (r3 : List (S47)) (r4 : Int) (w : World) (hr0_1 : Kd.C k88 w A0_1 l0_1.length l0_1) (hc0_1 : l0_1.length ≤ c0_1) (hr0_2 : Kd.C k47 w A0_2 l0_2.length l0_2) (hc0_2 : l0_2.length ≤ c0_2) (h : vtimer_Stop.f a0_0 l0_1 l0_2 a1 = some (r1, r2, r3, r4)) :
    Calls Try.prog 23 #[.agg #[.int .i64 a0_0, .slice A0_1 l0_1.length c0_1, .slice A0_2 l0_2.length c0_2], .int .i64 a1] w fun e w' => ∃ v1_ v2_ : Value, e = .returned (.tuple #[.agg #[.int .i64 r1, v1_, v2_], .int .i64 r4]) ∧ Kd.R k88 88 w' w.heap.size (fun _ => True) v1_ r2 ∧ Kd.R k47 47 w' w.heap.size (fun _ => True) v2_ r3 ∧ Below w.heap.size w w' := by
  unfold vtimer_Stop.f at h
  split at h
  rotate_left
  · cases h
  rename_i hn
  obtain ⟨hn1, hn2⟩ := hn
  have h : stopF a0_0 l0_1 l0_2 a1 = (r1, r2, r3, r4) := Option.some.inj h
  obtain ⟨W0, hW0⟩ : ∃ W0, ((w.alloc (.cells #[.int .i64 a0_0, .slice A0_1 l0_1.length c0_1, .slice A0_2 l0_2.length c0_2] 27)).alloc (.cells #[.int .i64 a1] 3)).alloc (.cells #[.int .i64 0, .slice none 0 0, .slice none 0 0] 27) = W0 := ⟨_, rfl⟩
  have hs0 : W0.heap.size = w.heap.size + 3 := by subst hW0; simp
  have hb0 : Below w.heap.size w W0 := by subst hW0; exact (((Below.refl _ w).alloc (Nat.le_refl _) _).alloc (by simp) _).alloc (by simp; omega) _
  have k3 : W0.heap[w.heap.size]? = some (.cells #[.int .i64 a0_0, .slice A0_1 l0_1.length c0_1, .slice A0_2 l0_2.length c0_2] 27 (0, 0)) := by
    have := blk_new w (.cells #[.int .i64 a0_0, .slice A0_1 l0_1.length c0_1, .slice A0_2 l0_2.length c0_2] 27)
    subst hW0; exact blk_alloc (blk_alloc this _) _
  have k4 : W0.heap[w.heap.size + 1]? = some (.cells #[.int .i64 a1] 3 (0, 0)) := by
    have := blk_new (w.alloc (.cells #[.int .i64 a0_0, .slice A0_1 l0_1.length c0_1, .slice A0_2 l0_2.length c0_2] 27)) (.cells #[.int .i64 a1] 3)
    rw [World.size_alloc] at this
    subst hW0; exact blk_alloc this _
  have k6 : W0.heap[w.heap.size + 1 + 1]? = some (.cells #[.int .i64 0, .slice none 0 0, .slice none 0 0] 27 (0, 0)) := by
    have := blk_new ((w.alloc (.cells #[.int .i64 a0_0, .slice A0_1 l0_1.length c0_1, .slice A0_2 l0_2.length c0_2] 27)).alloc (.cells #[.int .i64 a1] 3)) (.cells #[.int .i64 0, .slice none 0 0, .slice none 0 0] 27)
    rw [World.size_alloc, World.size_alloc] at this
    subst hW0; exact this
  have hst := stop_with W0 a0_0 A0_1 c0_1 l0_1 A0_2 c0_2 l0_2 a1 (w.heap.size + 1) (Kd.C_below hr0_1 hb0) hc0_1 (Kd.C_below hr0_2 hb0) hc0_2 hn1 hn2 k4
  rw [h] at hst
  have d0 : W0.cell? ⟨w.heap.size, 0, none⟩ = some (.int .i64 a0_0) := (blk_cell k3 0).trans rfl
  have d1 : W0.cell? ⟨w.heap.size, 1, none⟩ = some (.slice A0_1 l0_1.length c0_1) := (blk_cell k3 1).trans rfl
  have d2 : W0.cell? ⟨w.heap.size, 2, none⟩ = some (.slice A0_2 l0_2.length c0_2) := (blk_cell k3 2).trans rfl
  have d3 : W0.cell? ⟨w.heap.size + 1, 0, none⟩ = some (.int .i64 a1) := (blk_cell k4 0).trans rfl
  have HST := Lib.hid hst
  have HB0 := Lib.hid hb0
  have HK6 := Lib.hid k6
  clear hst h hr0_1 hr0_2 hb0 k3 k4 k6
  go_enter Try.func23, Try.ntmps23
  go_wp2_with fail
  clear hW0
  refine (HST.out).mono ?_
  rintro e w2 ⟨v1, v2, rfl, h1, h2, hb2⟩
  obtain ⟨B1, d1, e1⟩ := Kd.R_slice h1
  obtain ⟨B2, d2, e2⟩ := Kd.R_slice h2
  subst e1
  subst e2
  have b8 := blk_below HK6.out hb2
  have p0 : w2.cell? ⟨w.heap.size + 1 + 1, 0, none⟩ = some (.int .i64 0) := (blk_cell b8 0).trans rfl
  have p1 : w2.cell? ⟨w.heap.size + 1 + 1, 1, none⟩ = some (.slice none 0 0) := (blk_cell b8 1).trans rfl
  have p2 : w2.cell? ⟨w.heap.size + 1 + 1, 2, none⟩ = some (.slice none 0 0) := (blk_cell b8 2).trans rfl
  have y0 := blk_frozen b8 0
  have y1 := blk_frozen b8 1
  have y2 := blk_frozen b8 2
  have HK8 := Lib.hid b8
  have HBB := Lib.hid (HB0.out.trans (hb2.mono (by omega)))
  have HT := Lib.hid h1
  have HA := Lib.hid h2
  clear b8 hb2 h1 h2
  go_wp2
  have X1 := blk_put HK8.out 0 (.int .i64 r1) (cs' := #[.int .i64 r1, .slice none 0 0, .slice none 0 0]) rfl
  have X2 := blk_put X1 1 (.slice B1 r2.length d1) (cs' := #[.int .i64 r1, .slice B1 r2.length d1, .slice none 0 0]) rfl
  have X3 := blk_put X2 2 (.slice B2 r3.length d2) (cs' := #[.int .i64 r1, .slice B1 r2.length d1, .slice B2 r3.length d2]) rfl
  refine bodyPost_ret (results_ct rfl _ _ (w.heap.size + 1 + 1) 27 #[.int .i64 r1, .slice B1 r2.length d1, .slice B2 r3.length d2] (0, 0) _ rfl X3 Try.underlying27 rfl (by kernel_rfl)) rfl ?_
  refine ⟨_, _, rfl, ?_, ?_, below_set (below_set (below_set HBB.out (by omega)) (by omega)) (by omega)⟩
  · exact Kd.R_lower (Kd.R_mono (Kd.R_far (p := ⟨w.heap.size + 1 + 1, 2, none⟩) (Kd.R_far (p := ⟨w.heap.size + 1 + 1, 1, none⟩) (Kd.R_far (p := ⟨w.heap.size + 1 + 1, 0, none⟩) (Kd.R_types HT.out HK8.out (by decide)) (fun k hk => hk.2) _) (fun k hk => hk.2) _) (fun k hk => hk.2) _) (fun _ _ => trivial)) (by omega)
  · exact Kd.R_lower (Kd.R_mono (Kd.R_far (p := ⟨w.heap.size + 1 + 1, 2, none⟩) (Kd.R_far (p := ⟨w.heap.size + 1 + 1, 1, none⟩) (Kd.R_far (p := ⟨w.heap.size + 1 + 1, 0, none⟩) (Kd.R_types HA.out HK8.out (by decide)) (fun k hk => hk.2) _) (fun k hk => hk.2) _) (fun k hk => hk.2) _) (fun _ _ => trivial)) (by omega)

set_option maxRecDepth 100000 in
set_option maxHeartbeats 2000000 in
theorem vtimer_Wake.calls (a0_0 : Int) (A0_1 : Option Addr) (c0_1 : Nat) (l0_1 : List (S88)) (A0_2 : Option Addr) (c0_2 : Nat) (l0_2 : List (S47)) (a1 : Int) (r1 : Int) (r2 : List (S88)) (r3 : List (S47)) (r4 : Int) (w : World) (hr0_1 : Kd.C k88 w A0_1 l0_1.length l0_1) (hc0_1 : l0_1.length ≤ c0_1) (hr0_2 : Kd.C k47 w A0_2 l0_2.length l0_2) (hc0_2 : l0_2.length ≤ c0_2) (h : vtimer_Wake.f a0_0 l0_1 l0_2 a1 = some (r1, r2, r3, r4)) :
    Calls Try.prog 25 #[.agg #[.int .i64 a0_0, .slice A0_1 l0_1.length c0_1, .slice A0_2 l0_2.length c0_2], .int .i64 a1] w fun e w' => ∃ v1_ v2_ : Value, e = .returned (.tuple #[.agg #[.int .i64 r1, v1_, v2_], .int .i64 r4]) ∧ Kd.R k88 88 w' w.heap.size (fun _ => True) v1_ r2 ∧ Kd.R k47 47 w' w.heap.size (fun _ => True) v2_ r3 ∧ Below w.heap.size w w' := by
  unfold vtimer_Wake.f at h
  split at h
  rotate_left
  · cases h
  rename_i hn
  obtain ⟨hn1, hn2⟩ := hn
  have h : wakeF a0_0 l0_1 l0_2 a1 = (r1, r2, r3, r4) := Option.some.inj h
  obtain ⟨W0, hW0⟩ : ∃ W0, ((w.alloc (.cells #[.int .i64 a0_0, .slice A0_1 l0_1.length c0_1, .slice A0_2 l0_2.length c0_2] 27)).alloc (.cells #[.int .i64 a1] 3)).alloc (.cells #[.int .i64 0, .slice none 0 0, .slice none 0 0] 27) = W0 := ⟨_, rfl⟩
  have hs0 : W0.heap.size = w.heap.size + 3 := by subst hW0; simp
  have hb0 : Below w.heap.size w W0 := by subst hW0; exact (((Below.refl _ w).alloc (Nat.le_refl _) _).alloc (by simp) _).alloc (by simp; omega) _
  have k3 : W0.heap[w.heap.size]? = some (.cells #[.int .i64 a0_0, .slice A0_1 l0_1.length c0_1, .slice A0_2 l0_2.length c0_2] 27 (0, 0)) := by
    have := blk_new w (.cells #[.int .i64 a0_0, .slice A0_1 l0_1.length c0_1, .slice A0_2 l0_2.length c0_2] 27)
    subst hW0; exact blk_alloc (blk_alloc this _) _
  have k4 : W0.heap[w.heap.size + 1]? = some (.cells #[.int .i64 a1] 3 (0, 0)) := by
    have := blk_new (w.alloc (.cells #[.int .i64 a0_0, .slice A0_1 l0_1.length c0_1, .slice A0_2 l0_2.length c0_2] 27)) (.cells #[.int .i64 a1] 3)
    rw [World.size_alloc] at this
    subst hW0; exact blk_alloc this _
  have k6 : W0.heap[w.heap.size + 1 + 1]? = some (.cells #[.int .i64 0, .slice none 0 0, .slice none 0 0] 27 (0, 0)) := by
    have := blk_new ((w.alloc (.cells #[.int .i64 a0_0, .slice A0_1 l0_1.length c0_1, .slice A0_2 l0_2.length c0_2] 27)).alloc (.cells #[.int .i64 a1] 3)) (.cells #[.int .i64 0, .slice none 0 0, .slice none 0 0] 27)
    rw [World.size_alloc, World.size_alloc] at this
    subst hW0; exact this
  have hst := wake_with W0 a0_0 A0_1 c0_1 l0_1 A0_2 c0_2 l0_2 a1 (w.heap.size + 1) (Kd.C_below hr0_1 hb0) hc0_1 (Kd.C_below hr0_2 hb0) hc0_2 hn1 hn2 k4
  rw [h] at hst
  have d0 : W0.cell? ⟨w.heap.size, 0, none⟩ = some (.int .i64 a0_0) := (blk_cell k3 0).trans rfl
  have d1 : W0.cell? ⟨w.heap.size, 1, none⟩ = some (.slice A0_1 l0_1.length c0_1) := (blk_cell k3 1).trans rfl
  have d2 : W0.cell? ⟨w.heap.size, 2, none⟩ = some (.slice A0_2 l0_2.length c0_2) := (blk_cell k3 2).trans rfl
  have d3 : W0.cell? ⟨w.heap.size + 1, 0, none⟩ = some (.int .i64 a1) := (blk_cell k4 0).trans rfl
  have HST := Lib.hid hst
  have HB0 := Lib.hid hb0
  have HK6 := Lib.hid k6
  clear hst h hr0_1 hr0_2 hb0 k3 k4 k6
  go_enter Try.func25, Try.ntmps25
  go_wp2_with fail
  clear hW0
  refine (HST.out).mono ?_
  rintro e w2 ⟨v1, v2, rfl, h1, h2, hb2⟩
  obtain ⟨B1, d1, e1⟩ := Kd.R_slice h1
  obtain ⟨B2, d2, e2⟩ := Kd.R_slice h2
  subst e1
  subst e2
  have b8 := blk_below HK6.out hb2
  have p0 : w2.cell? ⟨w.heap.size + 1 + 1, 0, none⟩ = some (.int .i64 0) := (blk_cell b8 0).trans rfl
  have p1 : w2.cell? ⟨w.heap.size + 1 + 1, 1, none⟩ = some (.slice none 0 0) := (blk_cell b8 1).trans rfl
  have p2 : w2.cell? ⟨w.heap.size + 1 + 1, 2, none⟩ = some (.slice none 0 0) := (blk_cell b8 2).trans rfl
  have y0 := blk_frozen b8 0
  have y1 := blk_frozen b8 1
  have y2 := blk_frozen b8 2
  have HK8 := Lib.hid b8
  have HBB := Lib.hid (HB0.out.trans (hb2.mono (by omega)))
  have HT := Lib.hid h1
  have HA := Lib.hid h2
  clear b8 hb2 h1 h2
  go_wp2
  have X1 := blk_put HK8.out 0 (.int .i64 r1) (cs' := #[.int .i64 r1, .slice none 0 0, .slice none 0 0]) rfl
  have X2 := blk_put X1 1 (.slice B1 r2.length d1) (cs' := #[.int .i64 r1, .slice B1 r2.length d1, .slice none 0 0]) rfl
  have X3 := blk_put X2 2 (.slice B2 r3.length d2) (cs' := #[.int .i64 r1, .slice B1 r2.length d1, .slice B2 r3.length d2]) rfl
  refine bodyPost_ret (results_ct rfl _ _ (w.heap.size + 1 + 1) 27 #[.int .i64 r1, .slice B1 r2.length d1, .slice B2 r3.length d2] (0, 0) _ rfl X3 Try.underlying27 rfl (by kernel_rfl)) rfl ?_
  refine ⟨_, _, rfl, ?_, ?_, below_set (below_set (below_set HBB.out (by omega)) (by omega)) (by omega)⟩
  · exact Kd.R_lower (Kd.R_mono (Kd.R_far (p := ⟨w.heap.size + 1 + 1, 2, none⟩) (Kd.R_far (p := ⟨w.heap.size + 1 + 1, 1, none⟩) (Kd.R_far (p := ⟨w.heap.size + 1 + 1, 0, none⟩) (Kd.R_types HT.out HK8.out (by decide)) (fun k hk => hk.2) _) (fun k hk => hk.2) _) (fun k hk => hk.2) _) (fun _ _ => trivial)) (by omega)
  · exact Kd.R_lower (Kd.R_mono (Kd.R_far (p := ⟨w.heap.size + 1 + 1, 2, none⟩) (Kd.R_far (p := ⟨w.heap.size + 1 + 1, 1, none⟩) (Kd.R_far (p := ⟨w.heap.size + 1 + 1, 0, none⟩) (Kd.R_types HA.out HK8.out (by decide)) (fun k hk => hk.2) _) (fun k hk => hk.2) _) (fun k hk => hk.2) _) (fun _ _ => trivial)) (by omega)

set_option maxRecDepth 100000 in
set_option maxHeartbeats 2000000 in
theorem vtimer_Sleep.calls (a0_0 : Int) (A0_1 : Option Addr) (c0_1 : Nat) (l0_1 : List (S88)) (A0_2 : Option Addr) (c0_2 : Nat) (l0_2 : List (S47)) (a1 : Int) (a2 : Int) (r1 : Int) (r2 : List (S88)) (r3 : List (S47)) (r4 : Int) (w : World) (hr0_1 : Kd.C k88 w A0_1 l0_1.length l0_1) (hc0_1 : l0_1.length ≤ c0_1) (hr0_2 : Kd.C k47 w A0_2 l0_2.length l0_2) (hc0_2 : l0_2.length ≤ c0_2) (h : vtimer_Sleep.f a0_0 l0_1 l0_2 a1 a2 = some (r1, r2, r3, r4)) :
    Calls Try.prog 24 #[.agg #[.int .i64 a0_0, .slice A0_1 l0_1.length c0_1, .slice A0_2 l0_2.length c0_2], .int .i64 a1, .int .i64 a2] w fun e w' => ∃ v1_ v2_ : Value, e = .returned (.tuple #[.agg #[.int .i64 r1, v1_, v2_], .int .i64 r4]) ∧ Kd.R k88 88 w' w.heap.size (fun _ => True) v1_ r2 ∧ Kd.R k47 47 w' w.heap.size (fun _ => True) v2_ r3 ∧ Below w.heap.size w w' := by
  unfold vtimer_Sleep.f at h
  split at h
  rotate_left
  · cases h
  rename_i hn
  obtain ⟨hn1, hn2⟩ := hn
  have h : sleepF a0_0 l0_1 l0_2 a1 a2 = (r1, r2, r3, r4) := Option.some.inj h
  obtain ⟨W0, hW0⟩ : ∃ W0, (((w.alloc (.cells #[.int .i64 a0_0, .slice A0_1 l0_1.length c0_1, .slice A0_2 l0_2.length c0_2] 27)).alloc (.cells #[.int .i64 a1] 3)).alloc (.cells #[.int .i64 a2] 2)).alloc (.cells #[.int .i64 0, .slice none 0 0, .slice none 0 0] 27) = W0 := ⟨_, rfl⟩
  have hs0 : W0.heap.size = w.heap.size + 4 := by subst hW0; simp
  have hb0 : Below w.heap.size w W0 := by subst hW0; exact ((((Below.refl _ w).alloc (Nat.le_refl _) _).alloc (by simp) _).alloc (by simp; omega) _).alloc (by simp; omega) _
  have k3 : W0.heap[w.heap.size]? = some (.cells #[.int .i64 a0_0, .slice A0_1 l0_1.length c0_1, .slice A0_2 l0_2.length c0_2] 27 (0, 0)) := by
    have := blk_new w (.cells #[.int .i64 a0_0, .slice A0_1 l0_1.length c0_1, .slice A0_2 l0_2.length c0_2] 27)
    subst hW0; exact blk_alloc (blk_alloc (blk_alloc this _) _) _
  have k4 : W0.heap[w.heap.size + 1]? = some (.cells #[.int .i64 a1] 3 (0, 0)) := by
    have := blk_new (w.alloc (.cells #[.int .i64 a0_0, .slice A0_1 l0_1.length c0_1, .slice A0_2 l0_2.length c0_2] 27)) (.cells #[.int .i64 a1] 3)
    rw [World.size_alloc] at this
    subst hW0; exact blk_alloc (blk_alloc this _) _
  have k5 : W0.heap[w.heap.size + 1 + 1]? = some (.cells #[.int .i64 a2] 2 (0, 0)) := by
    have := blk_new ((w.alloc (.cells #[.int .i64 a0_0, .slice A0_1 l0_1.length c0_1, .slice A0_2 l0_2.length c0_2] 27)).alloc (.cells #[.int .i64 a1] 3)) (.cells #[.int .i64 a2] 2)
    rw [World.size_alloc, World.size_alloc] at this
    subst hW0; exact blk_alloc this _
  have k6 : W0.heap[w.heap.size + 1 + 1 + 1]? = some (.cells #[.int .i64 0, .slice none 0 0, .slice none 0 0] 27 (0, 0)) := by
    have := blk_new (((w.alloc (.cells #[.int .i64 a0_0, .slice A0_1 l0_1.length c0_1, .slice A0_2 l0_2.length c0_2] 27)).alloc (.cells #[.int .i64 a1] 3)).alloc (.cells #[.int .i64 a2] 2)) (.cells #[.int .i64 0, .slice none 0 0, .slice none 0 0] 27)
    rw [World.size_alloc, World.size_alloc, World.size_alloc] at this
    subst hW0; exact this
  have hst := sleep_with W0 a0_0 A0_1 c0_1 l0_1 A0_2 c0_2 l0_2 a1 a2 (w.heap.size + 1) (w.heap.size + 1 + 1) (Kd.C_below hr0_1 hb0) hc0_1 (Kd.C_below hr0_2 hb0) hc0_2 hn1 hn2 k4 k5
  rw [h] at hst
  have d0 : W0.cell? ⟨w.heap.size, 0, none⟩ = some (.int .i64 a0_0) := (blk_cell k3 0).trans rfl
  have d1 : W0.cell? ⟨w.heap.size, 1, none⟩ = some (.slice A0_1 l0_1.length c0_1) := (blk_cell k3 1).trans rfl
  have d2 : W0.cell? ⟨w.heap.size, 2, none⟩ = some (.slice A0_2 l0_2.length c0_2) := (blk_cell k3 2).trans rfl
  have d3 : W0.cell? ⟨w.heap.size + 1, 0, none⟩ = some (.int .i64 a1) := (blk_cell k4 0).trans rfl
  have HST := Lib.hid hst
  have HB0 := Lib.hid hb0
  have HK6 := Lib.hid k6
  clear hst h hr0_1 hr0_2 hb0 k3 k4 k5 k6
  go_enter Try.func24, Try.ntmps24
  go_wp2_with fail
  clear hW0
  refine (HST.out).mono ?_
  rintro e w2 ⟨v1, v2, rfl, h1, h2, hb2⟩
  obtain ⟨B1, d1, e1⟩ := Kd.R_slice h1
  obtain ⟨B2, d2, e2⟩ := Kd.R_slice h2
  subst e1
  subst e2
  have b8 := blk_below HK6.out hb2
  have p0 : w2.cell? ⟨w.heap.size + 1 + 1 + 1, 0, none⟩ = some (.int .i64 0) := (blk_cell b8 0).trans rfl
  have p1 : w2.cell? ⟨w.heap.size + 1 + 1 + 1, 1, none⟩ = some (.slice none 0 0) := (blk_cell b8 1).trans rfl
  have p2 : w2.cell? ⟨w.heap.size + 1 + 1 + 1, 2, none⟩ = some (.slice none 0 0) := (blk_cell b8 2).trans rfl
  have y0 := blk_frozen b8 0
  have y1 := blk_frozen b8 1
  have y2 := blk_frozen b8 2
  have HK8 := Lib.hid b8
  have HBB := Lib.hid (HB0.out.trans (hb2.mono (by omega)))
  have HT := Lib.hid h1
  have HA := Lib.hid h2
  clear b8 hb2 h1 h2
  go_wp2
  have X1 := blk_put HK8.out 0 (.int .i64 r1) (cs' := #[.int .i64 r1, .slice none 0 0, .slice none 0 0]) rfl
  have X2 := blk_put X1 1 (.slice B1 r2.length d1) (cs' := #[.int .i64 r1, .slice B1 r2.length d1, .slice none 0 0]) rfl
  have X3 := blk_put X2 2 (.slice B2 r3.length d2) (cs' := #[.int .i64 r1, .slice B1 r2.length d1, .slice B2 r3.length d2]) rfl
  refine bodyPost_ret (results_ct rfl _ _ (w.heap.size + 1 + 1 + 1) 27 #[.int .i64 r1, .slice B1 r2.length d1, .slice B2 r3.length d2] (0, 0) _ rfl X3 Try.underlying27 rfl (by kernel_rfl)) rfl ?_
  refine ⟨_, _, rfl, ?_, ?_, below_set (below_set (below_set HBB.out (by omega)) (by omega)) (by omega)⟩
  · exact Kd.R_lower (Kd.R_mono (Kd.R_far (p := ⟨w.heap.size + 1 + 1 + 1, 2, none⟩) (Kd.R_far (p := ⟨w.heap.size + 1 + 1 + 1, 1, none⟩) (Kd.R_far (p := ⟨w.heap.size + 1 + 1 + 1, 0, none⟩) (Kd.R_types HT.out HK8.out (by decide)) (fun k hk => hk.2) _) (fun k hk => hk.2) _) (fun k hk => hk.2) _) (fun _ _ => trivial)) (by omega)
  · exact Kd.R_lower (Kd.R_mono (Kd.R_far (p := ⟨w.heap.size + 1 + 1 + 1, 2, none⟩) (Kd.R_far (p := ⟨w.heap.size + 1 + 1 + 1, 1, none⟩) (Kd.R_far (p := ⟨w.heap.size + 1 + 1 + 1, 0, none⟩) (Kd.R_types HA.out HK8.out (by decide)) (fun k hk => hk.2) _) (fun k hk => hk.2) _) (fun k hk => hk.2) _) (fun _ _ => trivial)) (by omega)
end Go.Proofs.Ytlddekjlmkimnaa.C
