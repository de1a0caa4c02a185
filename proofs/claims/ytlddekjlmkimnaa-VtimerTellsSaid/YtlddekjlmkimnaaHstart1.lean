import Derived.Test.YtlddekjlmkimnaaJ30
import Derived.Test.YtlddekjlmkimnaaC15
import Derived.Test.YtlddekjlmkimnaaC17
import Derived.Deep.RegionHeld3
import Derived.Deep.DrawnRows
namespace Go.Proofs.Ytlddekjlmkimnaa.C
open Go.RowKit Go.Proofs.YtlddekjlmkimnaaW.PrintWords Go.Proofs.YtlddekjlmkimnaaW.PrintLast Go.Proofs.YtlddekjlmkimnaaW.PrintMore
set_option linter.unusedVariables false
set_option linter.unusedSimpArgs false
attribute [local go_sem ↓] Go.wp_at_zero Go.wp_at_succ

/-- x among rows: in the place of what is there, or between what is there. -/
def putA (rs : List S47) (i : Nat) (there : Bool) (x : S47) : List S47 := if there = true then rs.set i x else rs.take i ++ x :: rs.drop i

theorem AO.drewN {w : World} {base g : Nat} {now : Int} {ts : List S88} {rs : List S47} {sv rv : Value} (h : AO w base g now ts rs sv rv) (n : Nat) : AO (w.drewN n) base g now ts rs sv rv := ⟨h.blk, h.lo, Kd.R_drewN h.T _, Kd.R_drewN h.A _⟩
theorem AO.drew {w : World} {base g : Nat} {now : Int} {ts : List S88} {rs : List S47} {sv rv : Value} (h : AO w base g now ts rs sv rv) : AO w.drew base g now ts rs sv rv := ⟨h.blk, h.lo, Kd.R_drew h.T, Kd.R_drew h.A⟩
theorem AO.alloc {w : World} {base g : Nat} {now : Int} {ts : List S88} {rs : List S47} {sv rv : Value} (h : AO w base g now ts rs sv rv) (o : Obj) : AO (w.alloc o) base g now ts rs sv rv := ⟨blk_alloc h.blk _, h.lo, Kd.R_alloc h.T _, Kd.R_alloc h.A _⟩
theorem AO.elem {w : World} {base g b c : Nat} {now : Int} {ts : List S88} {rs : List S47} {sv : Value} (h : AO w base g now ts rs sv (.slice (some ⟨b, 0, none⟩) rs.length c)) (i : Nat) (hi : i < rs.length) (x : S47) :
    base ≤ b ∧ AO (((w.setCell ⟨b, i * 3, none⟩ (.int .i64 x.f0)).setCell ⟨b, i * 3 + 1, none⟩ (.int .i64 x.f1)).setCell ⟨b, i * 3 + 2, none⟩ (.int .i64 x.f2)) base g now ts (rs.set i x) sv (.slice (some ⟨b, 0, none⟩) rs.length c) := by
  obtain ⟨cs, hcl, hM, hcc, hfr⟩ := Kd.R_elem h.A z47 (i : Int) (by omega) (by omega)
  have hcl3 : cs.length = 3 := hcl
  have hseg := Kd.R_seg (seg := [.int .i64 x.f0, .int .i64 x.f1, .int .i64 x.f2]) (j := 0) (x' := x) (okp := fun k => True ∧ k ≠ b) h.A (i : Int) (by omega) (by omega) hcl hcc (by show 0 + 3 ≤ 3; omega)
    (by
      have : cs.take 0 ++ [Value.int .i64 x.f0, .int .i64 x.f1, .int .i64 x.f2] ++ cs.drop (0 + [Value.int .i64 x.f0, .int .i64 x.f1, .int .i64 x.f2].length) = [.int .i64 x.f0, .int .i64 x.f1, .int .i64 x.f2] := by
        rw [List.drop_of_length_le (by simp [hcl3])]; simp
      rw [this]; exact k47_mkM _ _ _ x) (fun k hk => hk)
  obtain ⟨hR, hg⟩ := hseg
  have e1 : ((i : Int).toNat * k47.sz + 0) = i * 3 := rfl
  rw [e1] at hR hg
  have hown : (Value.slice (some ⟨b, 0, none⟩) rs.length c).ownBlock = some b := by simp [Value.ownBlock]
  have hne : some g ≠ (Value.slice (some ⟨b, 0, none⟩) rs.length c).ownBlock := Kd.R_ne h.A h.blk (by decide)
  have hg' : w.grownBy (w.setCells b (i * 3) [.int .i64 x.f0, .int .i64 x.f1, .int .i64 x.f2]) (Value.slice (some ⟨b, 0, none⟩) rs.length c).ownBlock := by rw [hown]; exact hg
  refine ⟨Kd.R_base h.A b hown, ?_⟩
  have hR' : Kd.R k47 47 (w.setCells b (i * 3) [.int .i64 x.f0, .int .i64 x.f1, .int .i64 x.f2]) base (fun _ => True) (.slice (some ⟨b, 0, none⟩) rs.length c) (rs.set i x) := by simpa using hR
  exact ⟨blk_grown h.blk hg' hne, h.lo, Kd.R_over h.T h.A (by decide) hg', hR'⟩

theorem litA (w : World) (base : Nat) (hb : base ≤ w.heap.size) (x : S47) : Kd.R k47 47 (w.alloc (.cells #[.int .i64 x.f0, .int .i64 x.f1, .int .i64 x.f2] 47)) base (fun _ => True) (.slice (some ⟨w.heap.size, 0, none⟩) [x].length 1) [x] := by
  have h2 := World.ownsRow_lit (base := base) (e := 47) (size := 3) w #[.int .i64 x.f0, .int .i64 x.f1, .int .i64 x.f2] 1 hb (by simp [maxLen]) (by simp)
  refine A_mk ?_ (fun _ _ => trivial)
  rw [flat_oneA]
  simpa [encA] using h2

/-- slices.Insert among the rows of alarms in a block of the call's own. -/
theorem insert_any (w0 w : World) (g : Nat) (now : Int) (ts : List S88) (rs : List S47) (sv rv u : Value) (x : S47) (hB : Below w0.heap.size w0 w) (ha : AO w w0.heap.size g now ts rs sv rv) (hu : Kd.R k47 47 w w0.heap.size (fun _ => True) u [x]) (hne : ∀ k, some k = rv.ownBlock → some k ≠ u.ownBlock)
    (i : Nat) (hi : i ≤ rs.length) (hn : rs.length ≤ 1000000) :
    Calls Try.prog 50 #[rv, .int .i64 i, u] w fun e w' => ∃ v', e = .returned v' ∧ Below w0.heap.size w0 w' ∧ w'.heap[g]? = some (.cells #[.int .i64 now, sv, rv] 27 (0, 0)) ∧ Kd.R k88 88 w' w0.heap.size (fun _ => True) sv ts ∧
      Kd.R k47 47 w' w0.heap.size (fun _ => True) v' (rs.take i ++ x :: rs.drop i) ∧ Kept w w' (fun k => some k = rv.ownBlock ∨ some k = u.ownBlock) := by
  have hc := api_Alarm_50.calls (fun k => some k = rv.ownBlock) rv rs i (fun k => some k = u.ownBlock) u [x] (rs.take i ++ [x] ++ rs.drop i) [x] w0 w hB (Kd.R_tight rfl ha.A) hne (Kd.R_tight rfl hu) (fun k h h' => hne k h' h)
    (by unfold api_Alarm_50.f; rw [if_pos ⟨hn, by omega, by omega, rfl⟩]; simp)
  refine hc.mono ?_
  rintro e w' ⟨v', rfl, hR, -, hb, hk⟩
  have hty : ∀ k, (some k = rv.ownBlock ∨ some k = u.ownBlock) → ∃ cells, w.heap[k]? = some (.cells cells 47 (0, 0)) := by
    rintro k (h | h)
    · exact Kd.R_typed ha.A k h.symm
    · exact Kd.R_typed hu k h.symm
  refine ⟨v', rfl, hb, blk_kept ha.blk hk (fun h => ?_), ?_, Kd.R_mono (by simpa using hR) (fun _ _ => trivial), hk⟩
  · obtain ⟨cells, hc⟩ := hty g h
    rw [ha.blk] at hc
    simp at hc
  · refine Kd.R_mono (Kd.R_kept (Kd.R_tight rfl ha.T) hk (fun k hk h => ?_)) (fun _ _ => trivial)
    obtain ⟨c1, h1⟩ := hty k h
    obtain ⟨c2, h2⟩ := Kd.R_typed ha.T k hk.symm
    rw [h1] at h2
    simp at h2
end Go.Proofs.Ytlddekjlmkimnaa.C
