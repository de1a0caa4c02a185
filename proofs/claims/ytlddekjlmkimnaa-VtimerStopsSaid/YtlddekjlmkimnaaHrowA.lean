import Derived.Test.YtlddekjlmkimnaaHdel
namespace Go.Proofs.Ytlddekjlmkimnaa.C
open Go.RowKit Go.Sort Go.Proofs.YtlddekjlmkimnaaW.PrintWords Go.Proofs.YtlddekjlmkimnaaW.PrintLast Go.Proofs.YtlddekjlmkimnaaW.PrintMore
set_option linter.unusedVariables false
set_option linter.unusedSimpArgs false

/-! Rows of alarms. -/
def encA (x : S47) : List Value := [.int .i64 x.f0, .int .i64 x.f1, .int .i64 x.f2]
theorem encA_len : ∀ x, (encA x).length = 3 := fun _ => rfl
theorem encA_one : ∀ (l : List S47), ∀ v ∈ flat encA l, v.oneCell' = true := fun l v hv => by
  obtain ⟨x, _, hx⟩ := List.mem_flatMap.1 hv
  simp [encA] at hx; rcases hx with rfl | rfl | rfl <;> rfl
theorem A_own {w : World} {base : Nat} {ok : Nat → Prop} {v : Value} {l : List S47} (h : Kd.R k47 47 w base ok v l) : w.ownsRow base 47 3 v l.length (flat encA l) := R_own' rfl encA_len (fun _ _ _ _ _ h => k47_openM h) h
theorem A_mk {w : World} {base : Nat} {ok : Nat → Prop} {v : Value} {l : List S47} (h : w.ownsRow base 47 3 v l.length (flat encA l)) (hok : ∀ g, v.ownBlock = some g → ok g) : Kd.R k47 47 w base ok v l := R_mk' rfl encA_len (fun _ _ _ _ => k47_mkM _ _ _ _) h hok
theorem A_cells {w : World} {A : Option Addr} {n : Nat} {l : List S47} (h : Kd.C k47 w A n l) (hn : 0 < n) : ∃ ad, A = some ad ∧ ∀ t u, (flat encA l)[t]? = some u → w.cell? (ad.add t) = some u := C_cells rfl encA_len (fun _ _ _ h => k47_open h) h hn

/-! ### slices.Clone -/
def api_Alarm_60.f (l0 : List S47) : Option (List S47) := if l0.length ≤ 1000000 then some l0 else none
set_option maxRecDepth 100000 in
theorem api_Alarm_60.calls (A0 : Option Addr) (c0 : Nat) (l0 : List (S47)) (r : List (S47)) (w : World) (hr0 : Kd.C k47 w A0 l0.length l0) (hc0 : l0.length ≤ c0) (h : api_Alarm_60.f l0 = some r) :
    Calls Try.prog 60 #[.slice A0 l0.length c0] w fun e w' => ∃ v0_ : Value, e = .returned (v0_) ∧ Kd.R k47 47 w' w.heap.size (fun _ => True) v0_ r ∧ RowKit.Below w.heap.size w w' := by
  unfold api_Alarm_60.f at h
  by_cases hn : l0.length ≤ 1000000
  · rw [if_pos hn] at h
    obtain rfl := Option.some.inj h
    have hnil := fun W n c => Lib.run_eql_slice_nil (P := Try.prog) W 25 47 A0 n c 0 0 Try.underlying25
    cases A0 with
    | none =>
      have h0 : l0.length = 0 := by
        rcases Nat.eq_zero_or_pos l0.length with h | h
        · exact h
        · obtain ⟨ad, e, _⟩ := hr0.2.2 h; cases e
      obtain rfl : l0 = [] := List.eq_nil_of_length_eq_zero h0
      clear hr0 h
      go_enter Try.func60, Try.ntmps60
      go_wp2
      go_ret
      exact ⟨_, rfl, Kd.R_nil _ _ _ _ _, Below.refl _ _⟩
    | some ad =>
      obtain ⟨i0, hi, hz0, hz1, hz2⟩ := info_parts info47
      have hcells : ∀ t u, (flat encA l0)[t]? = some u → w.cell? (ad.add t) = some u := fun t u hu => by
        have hp : 0 < l0.length := by
          have := (List.getElem?_eq_some_iff.1 hu).1
          rw [flat_len encA_len] at this; omega
        obtain ⟨ad', e, hc⟩ := A_cells hr0 hp
        cases e
        exact hc t u hu
      have hcells1 := fun (X : Obj) t u hu => (World.cell?_of_block (w' := w.alloc X) (a := ad.add t) (Below.heap_alloc w X _ (World.block_lt_of_cell? w _ (hcells t u hu)))).trans (hcells t u hu)
      have HC := Lib.hid hcells1
      have hown0 : (w.alloc (.cells #[] 47)).ownsRow w.heap.size 47 3 (.slice (some ⟨w.heap.size, 0, none⟩) 0 0) 0 [] := World.ownsRow_lit w #[] 0 (Nat.le_refl _) (by unfold maxLen; omega) rfl
      have HO := Lib.hid hown0
      clear hcells hcells1 hown0 hr0 h
      go_enter Try.func60, Try.ntmps60
      go_wp2_with (at_builtin; refine wpList_append_own _ rfl _ _ 25 rfl w.heap.size 47 i0 _ 3 24 Try.underlying25 hi hz0 hz1 hz2 rfl (by decide) _ _ _ rfl HO.out ad l0.length c0 (flat encA l0) rfl (flat_len encA_len l0) (HC.out _) (encA_one l0) (by unfold maxLen; omega) (by omega) (by simp) ?_; intro v' w6 hown' hgrow' hnil')
      go_ret
      refine ⟨_, rfl, A_mk (by simpa using hown') (fun _ _ => trivial), ((Below.refl w.heap.size w).alloc (Nat.le_refl _) _).grown hgrow' (by simp) (fun g hg => ?_)⟩
      exact (World.ownsRow.lt HO.out g hg).1
  · rw [if_neg hn] at h; cases h
end Go.Proofs.Ytlddekjlmkimnaa.C
