import Derived.Test.YtolaaplnoahnkaaHplace
namespace Go.Proofs.Ytolaaplnoahnkaa.C
open Go.RowKit Go.Proofs.YtolaaplnoahnkaaW.PrintWords Go.Proofs.YtolaaplnoahnkaaW.PrintLast Go.Proofs.YtolaaplnoahnkaaW.PrintMore
set_option linter.unusedVariables false
set_option linter.unusedSimpArgs false

theorem okL_mem (now : Int) : ∀ (l : List S33) (last : Int), okL now last l = true → ∀ t ∈ l, okT now t = true
  | [], _, _, t, h => by cases h
  | x :: r, last, h, t, ht => by
    simp only [okL, Bool.and_eq_true] at h
    rcases List.mem_cons.1 ht with rfl | ht
    · exact h.1
    · exact okL_mem now r _ h.2.2 t ht
theorem okW_mem {now : Int} {l : List S33} (h : okW now l = true) {t : S33} (ht : t ∈ l) : 0 ≤ t.f0 ∧ t.f0 < 32 ∧ now < t.f1 ∧ t.f1 ≤ 1125899906842624 := by
  simp only [okW, Bool.and_eq_true] at h
  have := okL_mem now l _ h.2.2 t ht
  simpa [okT] using this
theorem okW_now {now : Int} {l : List S33} (h : okW now l = true) : 0 ≤ now ∧ now ≤ 1125899906842624 := by
  simp only [okW, Bool.and_eq_true, decide_eq_true_eq] at h
  exact ⟨h.1, h.2.1⟩

def hereB (now level slot at' : Int) : Bool := (placeF now at').1 == level && (placeF now at').2 == slot

set_option maxRecDepth 100000 in
set_option maxHeartbeats 1000000 in
theorem slot1 (now : Int) (sv : Value) (level slot : Int) (id at' : Int) (p q r : Nat) (w : World) (hnow : 0 ≤ now) (hnow2 : now ≤ 9223372036854775807) (hat : 0 ≤ at') (hat2 : at' ≤ 9223372036854775807)
    (hp : p < w.heap.size) (hq : q < w.heap.size) (hr : r < w.heap.size) (c0 : w.cell? ⟨p, 0, none⟩ = some (.int .i64 now)) (c1 : w.cell? ⟨q, 0, none⟩ = some (.int .i64 level)) (c2 : w.cell? ⟨r, 0, none⟩ = some (.int .i64 slot)) :
    Calls Try.prog 39 #[.agg #[.int .i64 id, .int .i64 at'], .pointer (some ⟨p, 0, none⟩), .pointer (some ⟨q, 0, none⟩), .pointer (some ⟨r, 0, none⟩)] w fun e w' => e = .returned (.bool (hereB now level slot at')) ∧ Below w.heap.size w w' := by
  have hpl := fun W => wheel_place.calls now at' (placeF now at').1 (placeF now at').2 W (by unfold wheel_place.f; rw [if_pos ⟨hnow, hnow2, hat, hat2⟩])
  have hb0 : Below w.heap.size w (w.alloc (.cells #[.int .i64 id, .int .i64 at'] 33)) := (Below.refl _ _).alloc (Nat.le_refl _) _
  have hfin : hereB now level slot at' = ((placeF now at').1 == level && (placeF now at').2 == slot) := rfl
  generalize (placeF now at').1 = L at *
  generalize (placeF now at').2 = S at *
  have HF := Lib.hid hfin
  clear hfin
  go_enter Try.func39, Try.ntmps39
  go_wp2_with fail
  refine (hpl _).mono ?_
  rintro e w2 ⟨rfl, hb2⟩
  have d1 : w2.cell? ⟨q, 0, none⟩ = some (.int .i64 level) := by rw [hb2.cell (by simp; omega)]; go_simp
  have d2 : w2.cell? ⟨r, 0, none⟩ = some (.int .i64 slot) := by rw [hb2.cell (by simp; omega)]; go_simp
  clear c0 c1 c2 hpl
  by_cases e1 : L = level
  · have e1b : (L == level) = true := by simp [e1]
    have HE := Lib.hid e1b
    clear e1
    go_wp2
    go_ret
    exact ⟨by rw [HF.out, HE.out]; rfl, hb0.trans (hb2.mono (by simp))⟩
  · have e1b : (L == level) = false := by simpa using e1
    have HE := Lib.hid e1b
    clear e1
    go_wp2
    go_ret
    exact ⟨by rw [HF.out, HE.out]; rfl, hb0.trans (hb2.mono (by simp))⟩

def slotF (now : Int) (l : List S33) (level slot : Int) : List Int := (l.filter (fun t => hereB now level slot t.f1)).map (·.f0)
theorem slotF_snoc (now : Int) (l : List S33) (level slot : Int) (k : Nat) (h : k < l.length) :
    slotF now (l.take (k + 1)) level slot = slotF now (l.take k) level slot ++ (if hereB now level slot (l.getD k z33).f1 then [(l.getD k z33).f0] else []) := by
  unfold slotF
  rw [List.take_succ_eq_append_getElem h, List.filter_append, List.map_append]
  have : l.getD k z33 = l[k] := by simp [List.getD_eq_getElem?_getD, h]
  rw [this]
  by_cases hh : hereB now level slot l[k].f1 <;> simp [List.filter_cons, hh]
theorem slotF_len (now : Int) (l : List S33) (level slot : Int) : (slotF now l level slot).length ≤ l.length := by
  unfold slotF; rw [List.length_map]; exact List.length_filter_le _ _

set_option maxRecDepth 100000 in
set_option maxHeartbeats 2000000 in
theorem slot_yes (now : Int) (A : Option Addr) (c : Nat) (l : List S33) (level slot : Int) (w : World) (hr : Kd.C k33 w A l.length l) (hc : l.length ≤ c) (hn : l.length ≤ 1000000) (hK : okW now l = true) :
    Calls Try.prog 23 #[.agg #[.int .i64 now, .slice A l.length c], .int .i64 level, .int .i64 slot] w fun e w' => ∃ v : Value, e = .returned v ∧ Kd.R (Kd.int .i64) 3 w' w.heap.size (fun _ => True) v (slotF now l level slot) ∧ Below w.heap.size w w' := by
  obtain ⟨W1, hW1⟩ : ∃ W1, ((w.alloc (.cells #[.int .i64 now, .slice A l.length c] 24)).alloc (.cells #[.int .i64 level] 3)).alloc (.cells #[.int .i64 slot] 3) = W1 := ⟨_, rfl⟩
  have hb0 : Below w.heap.size w W1 := by subst hW1; exact (((Below.refl _ _).alloc (Nat.le_refl _) _).alloc (by simp) _).alloc (by simp; omega) _
  have hs1 : W1.heap.size = w.heap.size + 3 := by subst hW1; simp
  have a0 : W1.cell? ⟨w.heap.size, 0, none⟩ = some (.int .i64 now) := by subst hW1; go_simp
  have a1 : W1.cell? ⟨w.heap.size, 1, none⟩ = some (.slice A l.length c) := by subst hW1; go_simp
  have a2 : W1.cell? ⟨w.heap.size + 1, 0, none⟩ = some (.int .i64 level) := by subst hW1; go_simp
  have a3 : W1.cell? ⟨w.heap.size + 1 + 1, 0, none⟩ = some (.int .i64 slot) := by subst hW1; go_simp
  have hr1 := Kd.C_below hr hb0
  obtain ⟨i0, hi, hz0, hz1, hz2⟩ := info_parts info3
  go_enter Try.func23, Try.ntmps23
  go_wp2_with fail

  clear hW1
  refine (Check_any _ _ _ _ _ hr1 hc (by omega)).mono ?_
  rintro e w3 ⟨rfl, hb3⟩
  rw [hK]
  have b0 := (hb3.cell (p := ⟨w.heap.size, 0, none⟩) (by simp; omega)).trans a0
  have b1 := (hb3.cell (p := ⟨w.heap.size, 1, none⟩) (by simp; omega)).trans a1
  have hb13 : Below (w.heap.size + 3) W1 w3 := hb3.mono (by omega)
  clear b0
  go_wp2
  go_loopw [8, 18] (fun v i wr => ∃ k : Nat, k ≤ l.length ∧ i = .int .i64 k ∧ Hid (wr.ownsRow (w.heap.size + 3) 3 1 v (slotF now (l.take k) level slot).length ((slotF now (l.take k) level slot).map (Value.int .i64))) ∧ Below (w.heap.size + 3) W1 wr) (fun _ i _ => l.length - (intOf i).toNat)
  case atStart => exact ⟨0, Nat.zero_le _, rfl, by simp [slotF]; exact World.ownsRow_nil _ _ _ _, hb13⟩
  case round =>
    obtain ⟨k, hk, rfl, HO, hb⟩ := hrel
    have hs := hb.size
    have hq1 : w.heap.size < wr.heap.size := by omega
    have hq2 : w.heap.size + 1 < wr.heap.size := by omega
    have hq3 : w.heap.size + 1 + 1 < wr.heap.size := by omega
    have g0 := (hb.cell (p := ⟨w.heap.size, 0, none⟩) (by simp)).trans a0
    have g2 := (hb.cell (p := ⟨w.heap.size + 1, 0, none⟩) (by simp)).trans a2
    have g3 := (hb.cell (p := ⟨w.heap.size + 1 + 1, 0, none⟩) (by simp)).trans a3
    have hrr := Kd.C_below hr (hb0.trans (hb.mono (by omega)))
    by_cases hlt : k < l.length
    · obtain ⟨ad, rfl, c0, c1⟩ := atN hrr k hlt
      have hmem := okW_mem hK (show l.getD k z33 ∈ l by simp [List.getD_eq_getElem?_getD, hlt])
      have hnow := okW_now hK
      have hsn := slotF_snoc now l level slot k hlt
      have hlen := slotF_len now (l.take k) level slot
      have hlen2 : (l.take k).length ≤ k := List.length_take_le _ _
      generalize l.getD k z33 = T at *
      clear a0 a1 a2 a3 b1
      cases hB : hereB now level slot T.f1 with
      | false =>
        rw [hB] at hsn
        simp only [Bool.false_eq_true, if_false, List.append_nil] at hsn
        have HS := Lib.hid hsn
        have HB := Lib.hid hB
        clear hsn hB
        go_wp2_with fail
        refine (slot1 now (.slice (some ad) l.length c) level slot T.f0 T.f1 w.heap.size (w.heap.size + 1) (w.heap.size + 1 + 1) _ (by omega) (by omega) (by omega) (by omega) (by simp; omega) (by simp; omega) (by simp; omega) (by go_simp) (by go_simp) (by go_simp)).mono ?_
        rintro e w4 ⟨rfl, hb4⟩
        rw [HB.out]
        go_wp2
        go_roundw
        case rel =>
          have hbx : Below wr.heap.size wr w4 := ((Below.refl wr.heap.size wr).alloc (Nat.le_refl _) _).trans (hb4.mono (by simp))
          exact ⟨k + 1, by omega, by go_num, by rw [HS.out]; exact own_move HO.out (fun g hg => hbx.block g (World.ownsRow.lt HO.out g hg).2), hb.trans (hbx.mono (by omega))⟩
        case measure => simp [intOf]; omega
      | true =>
        rw [hB] at hsn
        simp only [if_true] at hsn
        have HS := Lib.hid hsn
        have HB := Lib.hid hB
        clear hsn hB
        go_wp2_with fail
        refine (slot1 now (.slice (some ad) l.length c) level slot T.f0 T.f1 w.heap.size (w.heap.size + 1) (w.heap.size + 1 + 1) _ (by omega) (by omega) (by omega) (by omega) (by simp; omega) (by simp; omega) (by simp; omega) (by go_simp) (by go_simp) (by go_simp)).mono ?_
        rintro e w4 ⟨rfl, hb4⟩
        rw [HB.out]
        have hbx : Below wr.heap.size wr w4 := ((Below.refl wr.heap.size wr).alloc (Nat.le_refl _) _).trans (hb4.mono (by simp))
        have hs4 := hb4.size
        have d0 : w4.cell? ⟨wr.heap.size, 0, none⟩ = some (.int .i64 T.f0) := by rw [hb4.cell (by simp)]; go_simp
        have HO4 := own_move HO.out (fun g hg => hbx.block g (World.ownsRow.lt HO.out g hg).2)
        have HO5 := HO4.alloc (.cells #[.int .i64 T.f0] 3)
        have hbase : w.heap.size + 3 ≤ w4.heap.size := by simp at hs4; omega
        have HO5' := Lib.hid HO5
        clear HO4 HO5
        go_wp2_with (at_builtin; refine wpList_append_own _ rfl _ _ 45 rfl (w.heap.size + 3) 3 i0 (.int .i64 0) 1 8 Try.underlying45 hi hz0 hz1 hz2 rfl (by decide) _ _ _ rfl HO5'.out ⟨w4.heap.size, 0, none⟩ 1 1 [.int .i64 T.f0] rfl rfl (cell_one_new _ _ _) (by simp [Value.oneCell']) (by unfold maxLen; omega) (by omega) (by simp; omega) ?_; intro v' w6 hown' hgrow' hnil')
        refine ⟨⟨k + 1, by omega, by go_num, ?_, ?_⟩, by simp [intOf]; omega⟩
        · rw [HS.out, List.length_append, List.map_append]; exact hown'
        · have h5 : Below (w.heap.size + 3) W1 (w4.alloc (.cells #[.int .i64 T.f0] 3)) := (hb.trans (hbx.mono (by omega))).alloc (by omega) _
          exact h5.grown hgrow' (by simp; omega) (fun g hg => (World.ownsRow.lt HO5'.out g hg).1)
    · obtain rfl : k = l.length := by omega
      go_wp2
      go_ret
      rw [List.take_length] at HO
      exact ⟨_, rfl, Kd.R_lower (Kd.R_of_own HO.out (fun _ _ => trivial)) (by omega), hb0.trans (hb.mono (by omega))⟩

end Go.Proofs.Ytolaaplnoahnkaa.C
