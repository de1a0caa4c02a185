import Derived.Test.YtolaaplnoahnkaaHsorted
import Derived.Lib.SmallJoins
import Derived.Deep.SlicePairs
namespace Go.Proofs.Ytolaaplnoahnkaa.C
open Go.RowKit Go.Deep Go.Joins Go.ChangeShapes Go.WideShapes Go.Proofs.YtolaaplnoahnkaaW.PrintWords Go.Proofs.YtolaaplnoahnkaaW.PrintLast Go.Proofs.YtolaaplnoahnkaaW.PrintMore
set_option linter.unusedVariables false
set_option linter.unusedSimpArgs false

def wfI (n : Int) : Prop := -9223372036854775808 ≤ n ∧ n ≤ 9223372036854775807
theorem wfI_of {n : Int} (h : (Lit.int .i64 n).wf = true) : wfI n := by
  simp [Lit.wf, IntKind.min, IntKind.max, IntKind.bits, IntKind.signed] at h
  exact h
/-- A row of timers that is handed in. -/
theorem open_timers {H : Type} {enc : TypeId × Value → H} {w : World} {base : Nat} {spare : Nat → Bool} {held : Bool} {fuel : Nat} {cs : List Value} {x : DataW H × List MemPlace} (h : DataW.trod enc Try.prog w base spare held fuel 22 cs = some x) :
    ∃ A c l, cs = [.slice A l.length c] ∧ Kd.C k33 w A l.length l ∧ l.length ≤ c ∧ c ≤ maxLen ∧ ∀ t ∈ l, wfI t.f0 ∧ wfI t.f1 := by
  rcases open_slice_pairs Try.underlying22 Try.underlying33 (by kernel_rfl) rfl rfl (by kernel_rfl) (by kernel_rfl) h with ⟨rfl, _⟩ | ⟨a, len, cap, m, n, V0, V1, D0, D1, P0, P1, rfl, _, hl, hm, hmm, rfl, hx⟩
  · exact ⟨none, 0, [], rfl, ⟨rfl, by simp, fun h => by cases h⟩, Nat.le_refl _, by unfold maxLen; omega, fun t ht => by cases ht⟩
  · have hlm : len ≤ m := by rw [hmm]; split <;> omega
    have each : ∀ i, ∃ t : S33, i < len → w.cell? (a.add (i * 2)) = some (.int .i64 t.f0) ∧ w.cell? (a.add (i * 2 + 1)) = some (.int .i64 t.f1) ∧ wfI t.f0 ∧ wfI t.f1 := by
      intro i
      by_cases hi : i < len
      · obtain ⟨h1, h2, h3, h4⟩ := hx i (by omega)
        obtain ⟨n0, e0, _, w0⟩ := DataW.trod_int Try.underlying3 h3
        obtain ⟨n1, e1, _, w1⟩ := DataW.trod_int Try.underlying2 h4
        simp at e0 e1
        exact ⟨⟨n0, n1⟩, fun _ => ⟨by rw [h1, e0], by rw [h2, e1], wfI_of w0, wfI_of w1⟩⟩
      · exact ⟨⟨0, 0⟩, fun h => absurd h hi⟩
    obtain ⟨f, hf⟩ := Classical.axiomOfChoice each
    have hm' : cap ≤ 9223372036854775807 := hm
    refine ⟨some a, cap, (List.range len).map f, by simp, ⟨by simp, by simp; omega, fun _ => ⟨a, rfl, fun j p hj => ?_⟩⟩, by simpa using hl, hm, ?_⟩
    · obtain ⟨hjl, hjp⟩ := List.getElem?_eq_some_iff.1 hj
      have hjl' : j < len := by simpa using hjl
      obtain rfl : f j = p := by simpa using hjp
      refine ⟨_, rfl, k33_mk w (f j), fun i u hu => ?_⟩
      show w.cell? (a.add (j * 2 + i)) = some u
      match i, hu with
      | 0, hu => simp at hu; subst hu; exact (hf j hjl').1
      | 1, hu => simp at hu; subst hu; exact (hf j hjl').2.1
      | (i + 2), hu => simp at hu
    · intro t ht
      obtain ⟨i, hi, rfl⟩ := List.mem_map.1 ht
      exact (hf i (by simpa using hi)).2.2
theorem one24 : oneCellFields Try.prog #[{ name := "Now", type := 2, offset := 0, embedded := false, tag := "", pkgPath := "", byteOffset := 0 }, { name := "Timers", type := 22, offset := 1, embedded := false, tag := "", pkgPath := "", byteOffset := 8 }] = true := by kernel_rfl
theorem cells24 : Try.prog.cellsOf 24 = 2 := by kernel_rfl
set_option maxRecDepth 100000 in
/-- A wheel that is handed in. -/
theorem open_wheel {H : Type} {enc : TypeId × Value → H} {w : World} {r : Reach} {base b0 : Nat} {spare : Nat → Bool} {held : Bool} {v : Value} {d : DataW H} {p : List MemPlace} (hv : Value.okWide Try.prog w r b0 24 v) (h : DataW.Trod enc Try.prog w base spare held 24 v d p) :
    ∃ now A c l, v = .agg #[.int .i64 now, .slice A l.length c] ∧ wfI now ∧ Kd.C k33 w A l.length l ∧ l.length ≤ c ∧ c ≤ maxLen ∧ ∀ t ∈ l, wfI t.f0 ∧ wfI t.f1 := by
  have hh := open_agg2 (P := Try.prog) Try.underlying24 one24 cells24 hv h
  obtain ⟨v0, v1, y0, y1, n, hv0, _, _, h0, h1⟩ := hh
  subst hv0
  obtain ⟨now, e0, _, w0⟩ := DataW.trod_int Try.underlying2 h0
  obtain ⟨A, c, l, e1, hc⟩ := open_timers h1
  obtain rfl : v0 = .int .i64 now := by simpa using e0
  obtain rfl : v1 = .slice A l.length c := by simpa using e1
  exact ⟨now, A, c, l, rfl, wfI_of w0, hc⟩
end Go.Proofs.Ytolaaplnoahnkaa.C
