import Derived.Test.YtlddekjlmkimnaaHins
namespace Go.Proofs.Ytlddekjlmkimnaa.C
open Go.RowKit Go.Sort Go.Proofs.YtlddekjlmkimnaaW.PrintWords Go.Proofs.YtlddekjlmkimnaaW.PrintLast Go.Proofs.YtlddekjlmkimnaaW.PrintMore
set_option linter.unusedVariables false
set_option linter.unusedSimpArgs false

/-! ### slices.Delete of one element -/
def api_Timer_85.f (l0 : List S88) (a1 : Int) (a2 : Int) : Option (List S88) :=
  if l0.length ≤ 1000000 ∧ 0 ≤ a1 ∧ a2 = a1 + 1 ∧ a2 ≤ l0.length then some (l0.eraseIdx a1.toNat) else none

set_option maxRecDepth 100000 in
set_option maxHeartbeats 4000000 in
theorem api_Timer_85.calls (P0_ : Nat → Prop) (u9000_ : Value) (l0 : List (S88)) (a1 : Int) (a2 : Int) (r : List (S88)) (w0 w : World) (hB : Below w0.heap.size w0 w) (ho0 : Kd.R k88 88 w w0.heap.size P0_ u9000_ l0) (h : api_Timer_85.f l0 a1 a2 = some r) :
    Calls Try.prog 85 #[u9000_, .int .i64 a1, .int .i64 a2] w fun e w' => ∃ v0_ : Value, e = .returned (v0_) ∧ Kd.R k88 88 w' w0.heap.size (fun k_ => (P0_ k_ ∨ w.heap.size ≤ k_)) v0_ r ∧ Below w0.heap.size w0 w' ∧ Kept w w' (fun k_ => P0_ k_) := by
  unfold api_Timer_85.f at h
  split at h
  rotate_left
  · cases h
  rename_i hc
  obtain ⟨hn, ha, rfl, hb⟩ := hc
  obtain ⟨i, rfl⟩ := Int.eq_ofNat_of_zero_le ha
  simp only [Option.some.injEq, Int.ofNat_eq_natCast, Int.toNat_natCast] at h
  obtain rfl := h
  have hi : i + 1 ≤ l0.length := by have : ((i : Int) + 1) ≤ l0.length := hb; omega
  have hr0 := T_own ho0
  obtain ⟨g, c, cur, rfl, hgb, hgh, hgc, hcm, hcs, hct⟩ := R_info hr0 (by omega)
  have hPg : P0_ g := ho0.1 g rfl
  have hcm' : c ≤ 9223372036854775807 := hcm
  have hin : (i : Int) + 1 ≤ (l0.length : Int) := by omega
  have hb1 : (0 : Int) ≤ (i : Int) + 1 := by omega
  have hb2 : ¬ ((i : Int) = (i : Int) + 1) := by omega
  have hb3 : (i : Int) ≤ (i : Int) + 1 := by omega
  have htn : ((i : Int) + 1).toNat = i + 1 := by omega
  have hil : i < l0.length := by omega
  have hic : i ≤ c := by omega
  have hbs : w0.heap.size ≤ w.heap.size := hB.size
  -- the end
  have HEND : RowKit.Hid (∀ w1 W2 : World, Kd.R k88 88 w1 w0.heap.size P0_ (.slice (some ⟨g, 0, none⟩) (l0.length - 1) c) (l0.eraseIdx i) → Below w0.heap.size w0 w1 → w.grownBy w1 (some g) → ∀ cur1, w1.heap[g]? = some (.cells cur1 88 (0, 0)) → cur1.size = c * 2 → cur1.toList.take ((l0.length - 1) * 2) = flat encT (l0.eraseIdx i) →
      W2 = w1.setRow g (cur1.toList.take ((l0.length - 1) * 2) ++ [Value.int .i64 0, Value.int .i64 0] ++ cur1.toList.drop ((l0.length - 1) * 2 + 2)).toArray →
      Kd.R k88 88 W2 w0.heap.size (fun k_ => (P0_ k_ ∨ w.heap.size ≤ k_)) (.slice (some ⟨g, 0, none⟩) (l0.length - 1) c) (l0.eraseIdx i) ∧ Below w0.heap.size w0 W2 ∧ Kept w W2 (fun k_ => P0_ k_)) := by
    intro w1 W2 hR hB1 hg cur1 hc1 hcs1 hct1 hW2
    have hl : (l0.eraseIdx i).length = l0.length - 1 := by rw [List.length_eraseIdx, if_pos hil]
    have hg2 : w1.grownBy W2 (some g) := by rw [hW2]; exact grown_setRow _ _ _
    have hg3 := World.grownBy.trans hg hg2
    refine ⟨T_mk ?_ (fun k hk => .inl (by have e : k = g := by simpa [Value.ownBlock] using hk.symm
                                          exact e ▸ hPg)), hB1.grown hg2 hB1.size (fun k hk => by injection hk with hk; subst hk; exact hgb), ⟨hg3.size, fun k hk hk' => hg3.block k hk (fun e => hk' (by injection e with e; exact e ▸ hPg))⟩⟩
    rw [hl]
    refine ⟨by rw [flat_len encT_len, hl], .inr ⟨g, c, _, rfl, hgb, by rw [hW2]; exact setRow_heap _ _ _ _ _ _ hc1, by omega, hcm, ?_, ?_⟩⟩
    · simp only [List.size_toArray, List.length_append, List.length_take, List.length_drop, Array.length_toList, hcs1, List.length_cons, List.length_nil]; omega
    · rw [← hct1]
      show ((cur1.toList.take ((l0.length - 1) * 2) ++ [Value.int .i64 0, Value.int .i64 0]) ++ _).take _ = _
      have hq : cur1.toList.length = c * 2 := by rw [Array.length_toList]; exact hcs1
      rw [List.append_assoc, List.take_left' (by rw [List.length_take]; omega)]
  have HO := Lib.hid (show Kd.R k88 88 w.drew w0.heap.size P0_ (.slice (some ⟨g, 0, none⟩) l0.length c) l0 from Kd.R_drew ho0)
  have HBD := Lib.hid (show Below w0.heap.size w0 w.drew from below_drew1 hB)
  have HA := Lib.hid (show (if c = i + 1 then some ⟨g, 0, none⟩ else some ⟨g, (i + 1) * 2, none⟩ : Option Addr) = if c = i + 1 then some ⟨g, 0, none⟩ else (some (⟨g, 0, none⟩ : Addr)).map (·.add ((i + 1) * k88.sz)) by simp [Addr.add_lit]; rfl)
  have hNL := Lib.run_eql_slice_nil (P := Try.prog)
  clear hr0 ho0 hgh hct hB hNL
  by_cases hci : c = i + 1
  · subst hci
    have hLi : l0.length = i + 1 := by omega
    have hLi1 : l0.length - 1 = i := by omega
    have hl : (l0.eraseIdx i).length = i := by rw [List.length_eraseIdx, if_pos hil, hLi1]
    have hR0 := T_own HO.out
    obtain ⟨cur1, hc1, hcs1, hct0⟩ : ∃ cur1, w.drew.heap[g]? = some (.cells cur1 88 (0, 0)) ∧ cur1.size = (i + 1) * 2 ∧ cur1.toList.take (l0.length * 2) = flat encT l0 := by
      rcases hR0.2 with ⟨e, _⟩ | ⟨g', c', cur', e, _, h1, _, _, h2, h3⟩
      · cases e
      · injection e with e1 _ e3
        injection e1 with e1
        injection e1 with e1
        subst e1; subst e3
        exact ⟨_, h1, h2, h3⟩
    have htk : l0.eraseIdx i = l0.take i := by rw [List.eraseIdx_eq_take_drop_succ, List.drop_of_length_le (by omega), List.append_nil]
    have hct1 : cur1.toList.take (i * 2) = flat encT (l0.eraseIdx i) := by
      rw [htk, flat_take encT_len, ← hct0, List.take_take]; congr 1; omega
    have hR1 : Kd.R k88 88 w.drew w0.heap.size P0_ (.slice (some ⟨g, 0, none⟩) i (i + 1)) (l0.eraseIdx i) := by
      refine T_mk ?_ (fun k hk => by have e : k = g := by simpa [Value.ownBlock] using hk.symm
                                     exact e ▸ hPg)
      rw [hl]
      exact ⟨by rw [flat_len encT_len, hl], .inr ⟨g, i + 1, cur1, rfl, hgb, hc1, by omega, hcm, hcs1, hct1⟩⟩
    obtain ⟨W2, hW2⟩ : ∃ W2, W2 = w.drew.setRow g (cur1.toList.take (i * 2) ++ [Value.int .i64 0, Value.int .i64 0] ++ cur1.toList.drop (i * 2 + 2)).toArray := ⟨_, rfl⟩
    have HE := Lib.hid (HEND.out w.drew W2 (by rw [hLi1]; exact hR1) HBD.out ⟨rfl, rfl, rfl, Nat.le_refl _, fun _ _ _ => rfl⟩ cur1 hc1 hcs1 (by rw [hLi1]; exact hct1) (by rw [hLi1]; exact hW2))
    have hrun : ∀ ty cc (w' : World), w' = w.drew → (Builtin.clear_ #[22] ty #[.slice (some ⟨g, i * 2, none⟩) (l0.length - i) cc]).run Try.prog w' = .ok (.tuple #[]) W2 := fun ty cc w' hw' => by
      subst hw'
      rw [hW2, show l0.length - i = 1 by omega]
      exact run_clearK w.drew 22 88 ty (.agg #[.int .i64 0, .int .i64 0]) Try.underlying22 (fun _ => by kernel_rfl) g (i * 2) 1 cc cur1 88 hc1 (by omega) [Value.int .i64 0, Value.int .i64 0] (by simp [Builtin.zeroCells, Value.cells]; rfl) (by simp; omega) (by intro v hv; simp at hv; rcases hv with rfl | rfl <;> rfl)
    have hbb1 : (i : Int) ≤ (l0.length : Int) := by omega
    have hbb2 : ¬ (i + 1 = i) := by omega
    have hbb3 : i ≤ l0.length := by omega
    have hbb4 : l0.length ≤ i + 1 := by omega
    rw [hLi1] at HE
    clear hR0 hR1 hW2 hc1 hct1 hct0 hl hLi htk hLi1
    go_enter Try.func85, Try.ntmps85
    go_wp2
    go_region_law fail
    go_wp2_with (refine wpList_clear_run _ rfl _ 22 rfl _ rfl (hrun _ _ _ rfl) ?_)
    go_ret
    exact ⟨_, rfl, HE.out⟩
  · skip
    go_enter Try.func85, Try.ntmps85
    go_wp2
    go_region_law (refine Kd.R_delete_step k88 (w0 := w0) w0.heap.size (by rfl) _ _ 22 88 rfl Try.underlying22 (by kernel_rfl) (g := g) (n := l0.length) (c := c) (k := i) (m := l0.length - (i + 1)) (c2 := c - (i + 1)) (A := if c = i + 1 then some ⟨g, 0, none⟩ else some ⟨g, (i + 1) * 2, none⟩) (by simp [Act.eval, Act.put]) (by simp [Act.eval, Act.put, hci]) HA.out rfl HO.out hil HBD.out hbs ?_; intro w1 hR1 hB1 hg1)
    have hl : (l0.eraseIdx i).length = l0.length - 1 := by rw [List.length_eraseIdx, if_pos hil]
    have hr1 := T_own hR1
    rw [hl] at hr1
    obtain ⟨cur1, hc1, hcs1, hct1⟩ : ∃ cur1, w1.heap[g]? = some (.cells cur1 88 (0, 0)) ∧ cur1.size = c * 2 ∧ cur1.toList.take ((l0.length - 1) * 2) = flat encT (l0.eraseIdx i) := by
      rcases hr1.2 with ⟨e, _⟩ | ⟨g', c', cur', e, _, h1, _, _, h2, h3⟩
      · cases e
      · injection e with e1 _ e3
        injection e1 with e1
        injection e1 with e1
        subst e1; subst e3
        exact ⟨_, h1, h2, h3⟩
    obtain ⟨W2, hW2⟩ : ∃ W2, W2 = w1.setRow g (cur1.toList.take ((l0.length - 1) * 2) ++ [Value.int .i64 0, Value.int .i64 0] ++ cur1.toList.drop ((l0.length - 1) * 2 + 2)).toArray := ⟨_, rfl⟩
    have HE := Lib.hid (HEND.out w1 W2 hR1 hB1 (World.grownBy.trans (b := w.drew) ⟨rfl, rfl, rfl, Nat.le_refl _, fun _ _ _ => rfl⟩ hg1) cur1 hc1 hcs1 hct1 hW2)
    have hrun : ∀ ty cc, (Builtin.clear_ #[22] ty #[.slice (some ⟨g, (l0.length - 1) * 2, none⟩) (l0.length - (l0.length - 1)) cc]).run Try.prog w1 = .ok (.tuple #[]) W2 := fun ty cc => by
      rw [hW2, show l0.length - (l0.length - 1) = 1 by omega]
      exact run_clearK w1 22 88 ty (.agg #[.int .i64 0, .int .i64 0]) Try.underlying22 (fun _ => by kernel_rfl) g ((l0.length - 1) * 2) 1 cc cur1 88 hc1 (by omega) [Value.int .i64 0, Value.int .i64 0] (by simp [Builtin.zeroCells, Value.cells]; rfl) (by simp; omega) (by intro v hv; simp at hv; rcases hv with rfl | rfl <;> rfl)
    have hbb1 : ((l0.length - 1 : Nat) : Int) ≤ (l0.length : Int) := by omega
    have hbb2 : ¬ (c = l0.length - 1) := by omega
    have hbb3 : l0.length - 1 ≤ l0.length := by omega
    clear hr1 hR1 hB1 hg1 hW2 hc1 hct1
    go_wp2_with (refine wpList_clear_run w1 rfl _ 22 rfl _ rfl (hrun _ _) ?_)
    go_ret; exact ⟨_, rfl, HE.out⟩
end Go.Proofs.Ytlddekjlmkimnaa.C
