import Derived.Test.YtolaaplnoahnkaaHmet
import Derived.Test.YtolaaplnoahnkaaC12
import Derived.WalkArith
import Derived.Test.YtolaaplnoahnkaaHleast
namespace Go.Proofs.Ytolaaplnoahnkaa.C
open Go.RowKit Go.Maps Go.Proofs.YtolaaplnoahnkaaW.PrintWords Go.Proofs.YtolaaplnoahnkaaW.PrintLast Go.Proofs.YtolaaplnoahnkaaW.PrintMore
set_option linter.unusedVariables false
set_option linter.unusedSimpArgs false

set_option maxRecDepth 100000 in
set_option maxHeartbeats 4000000 in
theorem slots_yes (w : World) (now : Int) (A : Option Addr) (c : Nat) (l : List S33) (hr : Kd.C k33 w A l.length l) (hc : l.length ≤ c) (hok : okW now l = true) :
    Calls Try.prog 7 #[.agg #[.int .i64 now, .slice A l.length c]] w fun e w' => e = .returned (.bool true) ∧ Below w.heap.size w w' := by
  have hl := okW_len hok
  obtain ⟨W1, hW1⟩ : ∃ W1, w.alloc (.cells #[.int .i64 now, .slice A l.length c] 24) = W1 := ⟨_, rfl⟩
  have hb0 : Below w.heap.size w W1 := by subst hW1; exact (Below.refl _ _).alloc (Nat.le_refl _) _
  have hs1 : W1.heap.size = w.heap.size + 1 := by subst hW1; simp
  have HD := Lib.hid (show (∀ W, Below W1.heap.size W1 W → W.cell? ⟨w.heap.size, 0, none⟩ = some (.int .i64 now) ∧ W.cell? ⟨w.heap.size, 1, none⟩ = some (.slice A l.length c)) from fun W hb => by
    have k : W1.heap[w.heap.size]? = some (.cells #[.int .i64 now, .slice A l.length c] 24 (0, 0)) := by subst hW1; exact blk_new _ _
    have k2 := blk_below k hb
    exact ⟨(blk_cell k2 0).trans rfl, (blk_cell k2 1).trans rfl⟩)
  have HR := Lib.hid (show (∀ W, Below W1.heap.size W1 W → Kd.C k33 W A l.length l) from fun W hb => Kd.C_below hr (hb0.trans (hb.mono (by omega))))
  have HW := Lib.hid (fun W => mainsheetlaw15_wakes.calls 3 true W (wakes_k 3 (Nat.le_refl _)))
  have HC := Lib.hid (fun W hb => Check_any now A c l W (HR.out W hb) hc (by omega))
  have HSL := Lib.hid (fun W hb level slot => slot_yes now A c l level slot W (HR.out W hb) hc (by omega) hok)
  have hgtq : ∀ L Q : Nat, 0 < (slotF now l (L : Int) (Q : Int)).length → (now / 2 ^ (6 * L)).tmod 64 < (Q : Int) := fun L Q h => by
    obtain ⟨x, hx⟩ := List.exists_mem_of_length_pos h
    unfold slotF at hx
    obtain ⟨t, ht, _⟩ := List.mem_map.1 hx
    obtain ⟨h1, h2⟩ := List.mem_filter.1 ht
    have hm := okW_mem hok h1
    obtain ⟨lv, p1, p2, p3, p4⟩ := place_spec (okW_now hok).1 hm.2.2.1 hm.2.2.2
    unfold hereB at h2
    rw [p2] at h2
    simp only [Bool.and_eq_true, beq_iff_eq] at h2
    obtain ⟨h3, h4⟩ := h2
    obtain rfl : lv = L := by omega
    show dg now lv < _
    omega
  have hnx : ∃ mn : Int, wheel_Next.f now l = some (mn, decide (0 < l.length)) ∧ (0 < l.length → mn = minAt l) := by
    unfold wheel_Next.f
    rw [if_pos (by omega)]
    by_cases hp : 0 < l.length
    · exact ⟨minAt l, by simp [hok, hp], fun _ => rfl⟩
    · exact ⟨0, by simp [hp], fun h => absurd h hp⟩
  obtain ⟨mn, hmn, hmn2⟩ := hnx
  have HN := Lib.hid (fun W hb => wheel_Next.calls now A c l mn _ W (HR.out W hb) hc hmn)
  have hpl : ∀ t ∈ l, wheel_Place.f now l t.f0 = some ((placeF now t.f1).1, (placeF now t.f1).2, true) := fun t ht => by
    have hb := okW_mem hok ht
    have h0 := okW_now hok
    unfold wheel_Place.f
    rw [at_f now l _ (by omega), atF_ok hok, atR_mem (okW_rise hok) ht]
    simp only [Option.bind_some]
    rw [if_pos (by simp; omega)]
    unfold wheel_place.f
    rw [if_pos ⟨by omega, by omega, by omega, by omega⟩]
    rfl
  have HP := Lib.hid (fun (t : S33) (ht : t ∈ l) W hb => wheel_Place.calls now A c l t.f0 _ _ _ W (HR.out W hb) hc (hpl t ht))
  have HLM := Lib.hid (show ∀ t ∈ l, t.f1 = mn → (placeF now t.f1).1 = leastF now l from fun t ht h => least_min hok ht (h.trans (hmn2 (List.length_pos_of_mem ht))))
  clear hpl hmn
  have hg : decide ((l.length : Int) > 100) = false := decide_eq_false (by omega)
  have hmm := @run_makeMap Try.prog
  have HOK := Lib.hid hok
  clear hr hok
  go_enter Try.func7, Try.ntmps7
  go_wp2_with fail
  clear hW1
  refine (HW.out _).mono ?_
  rintro e w2 ⟨rfl, hb2⟩
  obtain ⟨d0, d1⟩ := HD.out w2 hb2
  go_wp2_with fail
  refine (HC.out _ hb2).mono ?_
  rintro e w3 ⟨rfl, hb3⟩
  rw [HOK.out]
  have hb13 : Below W1.heap.size W1 w3 := hb2.trans (hb3.mono hb2.size)
  clear d0 d1
  go_wp2
  have hs3 : W1.heap.size ≤ w3.heap.size := hb13.size
  go_loopw [36] (fun i wr => ∃ (L : Nat) (D : DataW Unit), L ≤ 9 ∧ i = .int .i64 (L : Int) ∧ wr.ownsMap Try.prog 3 (plainElem Try.prog 3) w3.heap.size (slotsF now l (64 * L)).length D ∧ Met D (slotsF now l (64 * L)) ∧ Below w3.heap.size w3 wr) (fun i _ => 9 - (intOf i).toNat)
  case atStart => exact ⟨0, _, by omega, rfl, by simpa [slotsF] using World.ownsMap_made _ _ _ _, by simpa [slotsF] using Met.nil, (Below.refl _ _).alloc (Nat.le_refl _) _⟩
  case round =>
    obtain ⟨L, D, hL, rfl, hown, hmet, hbr⟩ := hrel
    by_cases hlt : L < 9
    · have hlt1 : decide ((L : Int) < 9) = true := decide_eq_true (by omega)
      go_wp2_with fail
      go_loopw [39] (fun i wr2 => ∃ (Q : Nat) (D : DataW Unit), Q ≤ 64 ∧ i = .int .i64 (Q : Int) ∧ wr2.ownsMap Try.prog 3 (plainElem Try.prog 3) w3.heap.size (slotsF now l (64 * L + Q)).length D ∧ Met D (slotsF now l (64 * L + Q)) ∧ Below w3.heap.size w3 wr2) (fun i _ => 64 - (intOf i).toNat)
      case atStart => exact ⟨0, D, by omega, rfl, hown, hmet, hbr⟩
      case round =>
        obtain ⟨Q, D2, hQ, rfl, hown2, hmet2, hbr2⟩ := hrel
        by_cases hlq : Q < 64
        · have hlq1 : decide ((Q : Int) < 64) = true := decide_eq_true (by omega)
          have hbx : Below W1.heap.size W1 wr := hb13.trans (hbr2.mono hs3)
          obtain ⟨d0, d1⟩ := HD.out _ hbx
          go_wp2_with fail
          refine (HSL.out _ hbx (L : Int) (Q : Int)).mono ?_
          rintro e w4 ⟨v, rfl, hv, hb4⟩
          obtain ⟨Ao, co, rfl⟩ := Kd.R_slice hv
          have hsucc : slotsF now l (64 * L + Q + 1) = slotsF now l (64 * L + Q) ++ slotF now l (L : Int) (Q : Int) := by
            rw [slotsF_succ, show (64 * L + Q) / 64 = L by omega, show (64 * L + Q) % 64 = Q by omega]
          obtain ⟨ids, hids⟩ : ∃ ids, slotF now l (L : Int) (Q : Int) = ids := ⟨_, rfl⟩
          rw [hids] at hsucc hv
          rw [hids]
          have hbr4 : Below w3.heap.size w3 w4 := hbr2.trans (hb4.mono hbr2.size)
          obtain ⟨e0, e1⟩ := HD.out _ (hbx.trans (hb4.mono hbx.size))
          clear d0 d1
          have hwl : w3.heap.size < wr.heap.size := hown2.lt
          have hR0 : Kd.R (Kd.int .i64) 3 w4 (w3.heap.size + 1) (fun g => w3.heap.size < g) (.slice Ao ids.length co) ids := Kd.R_lower (Kd.R_mono (Kd.R_bound hv) (fun g hg => by have := hg.2.1; omega)) (by omega)
          have HR0 := Lib.hid hR0
          clear hv hR0
          have hnd := slotsF_nodup HOK.out (64 * L + Q + 1)
          rw [hsucc] at hnd
          have hbnd : ∀ x ∈ ids, 0 ≤ x ∧ x < 32 := fun x hx => by
            rw [← hids] at hx
            unfold slotF at hx
            obtain ⟨t, ht, rfl⟩ := List.mem_map.1 hx
            have := okW_mem HOK.out (List.mem_filter.1 ht).1
            omega
          have HND := Lib.hid hnd
          have HBD := Lib.hid hbnd
          clear hnd hbnd
          by_cases hne : 0 < ids.length
          · have hne1 : decide ((ids.length : Int) > 0) = true := decide_eq_true (by omega)
            have hgt : (now / 2 ^ (6 * L)).tmod 64 < (Q : Int) := hgtq L Q (by rw [hids]; exact hne)
            go_wp2_with fail
            go_loopw [61] (fun i wr3 => ∃ (k : Nat) (D3 : DataW Unit), k ≤ ids.length ∧ i = .int .i64 (k : Int) ∧ wr3.ownsMap Try.prog 3 (plainElem Try.prog 3) w3.heap.size ((slotsF now l (64 * L + Q)).length + k) D3 ∧ Met D3 (slotsF now l (64 * L + Q) ++ ids.take k) ∧ Below w3.heap.size w3 wr3 ∧ Hid (Kd.R (Kd.int .i64) 3 wr3 (w3.heap.size + 1) (fun g => w3.heap.size < g) (.slice Ao ids.length co) ids)) (fun i _ => ids.length - (intOf i).toNat)
            case atStart => exact ⟨0, D2, by omega, rfl, ownsMap_below hown2 hb4, by simpa using hmet2, hbr4, HR0⟩
            case round =>
              obtain ⟨k, D3, hk, rfl, hown3, hmet3, hbr3, hR⟩ := hrel
              by_cases hkl : k < ids.length
              · have hkl1 : decide ((k : Int) < (ids.length : Int)) = true := decide_eq_true (by omega)
                obtain ⟨ad, cs, rfl, _, hK, hcell⟩ := Kd.C_get (Kd.R_reads' hR.out).2.2 0 (k : Int) (by omega) (by omega)
                obtain rfl : cs = [.int .i64 (ids.getD (k : Int).toNat 0)] := hK
                have hx0 : wr.cell? (ad.add ((k : Int).toNat * 1 + 0)) = some (.int .i64 (ids.getD (k : Int).toNat 0)) := hcell 0 _ rfl
                rw [Nat.mul_one, Nat.add_zero, Int.toNat_natCast] at hx0
                obtain ⟨x, hx⟩ : ∃ x, ids.getD k 0 = x := ⟨_, rfl⟩
                rw [hx] at hx0
                have hxm : ids[k]? = some x := by rw [← hx, List.getD_eq_getElem?_getD, List.getElem?_eq_getElem hkl]; rfl
                have hxi : x ∈ ids := List.mem_of_getElem? hxm
                have hxn : x ∉ slotsF now l (64 * L + Q) ++ ids.take k := fun hm => by
                  have hp := List.pairwise_append.1 HND.out
                  rcases List.mem_append.1 hm with h | h
                  · exact hp.2.2 x h x hxi rfl
                  · obtain ⟨j, hj, e⟩ := List.getElem_of_mem h
                    rw [List.length_take] at hj
                    rw [List.getElem_take] at e
                    obtain ⟨hk2, e2⟩ := List.getElem?_eq_some_iff.1 hxm
                    exact List.pairwise_iff_getElem.1 hp.2.1 j k (by omega) hk2 (by omega) (by rw [e, e2])
                have hwf : (Lit.int .i64 x).wf = true := WalkArith.wf_i64 (by have := HBD.out x hxi; omega)
                have hkey : keyOf Try.prog 3 (.int .i64 x) = some (.int .i64 x) := keyOf_int_mk Try.underlying3 hwf
                have hil : ids.length ≤ l.length := by rw [← hids]; exact slotF_len _ _ _ _
                have hlens : (slotsF now l (64 * L + Q)).length ≤ l.length := by rw [slotsF_len HOK.out]; exact List.length_filter_le _ _
                go_wp2_with (first
                  | (at_lookup; refine wpList_lookup_own_int _ rfl _ _ 58 rfl 3 3 .i64 law3 Try.underlying58 Try.underlying3 (zero3 _) w3.heap.size _ _ rfl hown3 _ _ rfl hkey ?_; intro c9 hat hwc; rw [hmet3.at_ x, if_neg hxn] at hat; obtain rfl : (0 : Int) = c9 := by injection hat with h; injection h)
                  | (at_mapUpdate; refine wpList_mapUpdate_own _ rfl _ _ _ 58 rfl 3 3 law3 Try.underlying58 _ w3.heap.size _ _ rfl hown3 (by unfold maxLen; omega) _ _ _ rfl rfl hkey _ [] (plainElem_int Try.underlying3 (by first | exact wrap64_wf _ | decide)) ?_; intro w5 hown5 hgrow5))
                go_roundw
                case rel =>
                  have hm := hmet3.put hxn
                  have ht : ids.take (k + 1) = ids.take k ++ [x] := by rw [List.take_add_one, hxm]; rfl
                  refine ⟨k + 1, _, by omega, by go_num, hown5, by rw [ht, ← List.append_assoc]; exact hm, hbr3.grown hgrow5 hbr3.size (fun j hj => by cases hj; exact Nat.le_refl _), Lib.hid (Kd.R_mono (Kd.R_move (Kd.R_bound hR.out) (fun g hg => hgrow5.block g hg.2.2.1 (by have := hg.1; simp; omega))) (fun g hg => hg.1))⟩
                case measure => simp [intOf]; omega
              · obtain rfl : k = ids.length := by omega
                have hk1 : decide ((ids.length : Int) < (ids.length : Int)) = false := decide_eq_false (by omega)
                go_wp2
                go_roundw
                case rel =>
                  rw [List.take_length] at hmet3
                  exact ⟨Q + 1, D3, by omega, by go_num, by rw [show 64 * L + (Q + 1) = 64 * L + Q + 1 by omega, hsucc, List.length_append]; exact hown3, by rw [show 64 * L + (Q + 1) = 64 * L + Q + 1 by omega, hsucc]; exact hmet3, hbr3⟩
                case measure => simp [intOf]; omega
          · have hne1 : decide ((ids.length : Int) > 0) = false := decide_eq_false (by omega)
            go_wp2_with fail
            go_loopw [61] (fun i wr3 => ∃ (k : Nat) (D3 : DataW Unit), k ≤ ids.length ∧ i = .int .i64 (k : Int) ∧ wr3.ownsMap Try.prog 3 (plainElem Try.prog 3) w3.heap.size ((slotsF now l (64 * L + Q)).length + k) D3 ∧ Met D3 (slotsF now l (64 * L + Q) ++ ids.take k) ∧ Below w3.heap.size w3 wr3 ∧ Hid (Kd.R (Kd.int .i64) 3 wr3 (w3.heap.size + 1) (fun g => w3.heap.size < g) (.slice Ao ids.length co) ids)) (fun i _ => ids.length - (intOf i).toNat)
            case atStart => exact ⟨0, D2, by omega, rfl, ownsMap_below hown2 hb4, by simpa using hmet2, hbr4, HR0⟩
            case round =>
              obtain ⟨k, D3, hk, rfl, hown3, hmet3, hbr3, hR⟩ := hrel
              obtain rfl : k = ids.length := by omega
              have hk1 : decide ((ids.length : Int) < (ids.length : Int)) = false := decide_eq_false (by omega)
              go_wp2
              go_roundw
              case rel =>
                rw [List.take_length] at hmet3
                exact ⟨Q + 1, D3, by omega, by go_num, by rw [show 64 * L + (Q + 1) = 64 * L + Q + 1 by omega, hsucc, List.length_append]; exact hown3, by rw [show 64 * L + (Q + 1) = 64 * L + Q + 1 by omega, hsucc]; exact hmet3, hbr3⟩
              case measure => simp [intOf]; omega
        · obtain rfl : Q = 64 := by omega
          have hlq1 : decide ((64 : Int) < 64) = false := by decide
          go_wp2
          go_roundw
          case rel => exact ⟨L + 1, D2, by omega, by go_num, by rw [show 64 * (L + 1) = 64 * L + 64 by omega]; exact hown2, by rw [show 64 * (L + 1) = 64 * L + 64 by omega]; exact hmet2, hbr2⟩
          case measure => simp [intOf]; omega
    · obtain rfl : L = 9 := by omega
      have hmet' : Met D (slotsF now l 576) := hmet
      have hown' : wr.ownsMap Try.prog 3 (plainElem Try.prog 3) w3.heap.size (slotsF now l 576).length D := hown
      clear hmet hown
      have hbx : Below W1.heap.size W1 wr := hb13.trans (hbr.mono hs3)
      obtain ⟨d0, d1⟩ := HD.out _ hbx
      go_wp2_with fail
      have HM := Lib.hid hmet'
      have HO := Lib.hid hown'
      clear hmet' hown' d0 d1
      go_loopw [75] (fun i wr6 => ∃ (M : Nat), M ≤ l.length ∧ i = .int .i64 (M : Int) ∧ Hid (wr6.ownsMap Try.prog 3 (plainElem Try.prog 3) w3.heap.size (slotsF now l 576).length D) ∧ Below w3.heap.size w3 wr6) (fun i _ => l.length - (intOf i).toNat)
      case atStart => exact ⟨0, by omega, rfl, HO, hbr⟩
      case round =>
        obtain ⟨M, hM, rfl, HO6, hbr6⟩ := hrel
        have hbx6 : Below W1.heap.size W1 wr := hb13.trans (hbr6.mono hs3)
        by_cases hlm : M < l.length
        · have hlm1 : decide ((M : Int) < (l.length : Int)) = true := decide_eq_true (by omega)
          obtain ⟨ad, rfl, c0, c1⟩ := atN (HR.out _ hbx6) M hlm
          have hmem : l.getD M z33 ∈ l := by simp [List.getD_eq_getElem?_getD, hlm]
          have hin : (l.getD M z33).f0 ∈ slotsF now l 576 := (slotsF_mem HOK.out 576 _).2 ⟨_, hmem, keyOfT_lt HOK.out hmem, rfl⟩
          have hb6 := okW_mem HOK.out hmem
          generalize l.getD M z33 = T at *
          have hwf : (Lit.int .i64 T.f0).wf = true := WalkArith.wf_i64 (by omega)
          have hkey : keyOf Try.prog 3 (.int .i64 T.f0) = some (.int .i64 T.f0) := keyOf_int_mk Try.underlying3 hwf
          have hlt6 : w3.heap.size < wr.heap.size := HO6.out.lt
          go_wp2_with (first
            | (at_lookup; go_loud (refine wpList_lookup_own_int (H := Unit) _ rfl _ _ 58 rfl 3 3 .i64 law3 Try.underlying58 Try.underlying3 (zero3 _) w3.heap.size (slotsF now l 576).length D rfl ?hown _ _ rfl hkey ?_; (case hown => repeat (first | exact HO6.out | (refine World.ownsMap.setCell ?_ (by show w3.heap.size ≠ wr.heap.size; omega) _) | (refine World.ownsMap.alloc ?_ _))); intro c9 hat hwc; rw [HM.out.at_ T.f0, if_pos hin] at hat; obtain rfl : (1 : Int) = c9 := by injection hat with h; injection h)))
          refine ⟨⟨_, _, _, ⟨M + 1, by omega, by go_num, Lib.hid (HO6.out.alloc _), hbr6.alloc (by omega) _⟩, rfl, rfl, by go_num⟩, by simp [intOf]; omega⟩
        · obtain rfl : M = l.length := by omega
          have hlm1 : decide ((l.length : Int) < (l.length : Int)) = false := decide_eq_false (by omega)
          obtain ⟨d0, d1⟩ := HD.out _ hbx6
          go_wp2_with fail
          refine (HN.out _ hbx6).mono ?_
          rintro e w7 ⟨rfl, hb7⟩
          have hbr7 : Below w3.heap.size w3 w7 := hbr6.trans (hb7.mono hbr6.size)
          have hbx7 : Below W1.heap.size W1 w7 := hb13.trans (hbr7.mono hs3)
          have HO7 := Lib.hid (ownsMap_below HO6.out hb7)
          clear HO6 d0 d1
          obtain ⟨d0, d1⟩ := HD.out _ hbx7
          go_wp2_with fail
          go_loopw [13, 93] (fun v i wr8 => ∃ (M : Nat), M ≤ l.length ∧ i = .int .i64 (M : Int) ∧ v = .int .i64 (leastF now (l.take M)) ∧ Hid (wr8.ownsMap Try.prog 3 (plainElem Try.prog 3) w3.heap.size (slotsF now l 576).length D) ∧ Below w3.heap.size w3 wr8) (fun _ i _ => l.length - (intOf i).toNat)
          case atStart => exact ⟨0, by omega, rfl, rfl, HO7, hbr7⟩
          case round =>
            obtain ⟨M, hM, rfl, rfl, HO8, hbr8⟩ := hrel
            have hbx8 : Below W1.heap.size W1 wr := hb13.trans (hbr8.mono hs3)
            by_cases hlm : M < l.length
            · have hlm1 : decide ((M : Int) < (l.length : Int)) = true := decide_eq_true (by omega)
              obtain ⟨ad, rfl, c0, c1⟩ := atN (HR.out _ hbx8) M hlm
              have hmem : l.getD M z33 ∈ l := by simp [List.getD_eq_getElem?_getD, hlm]
              have htk : l.take (M + 1) = l.take M ++ [l.getD M z33] := by rw [List.take_succ_eq_append_getElem hlm]; simp [List.getD_eq_getElem?_getD, hlm]
              have HPT := Lib.hid (HP.out _ hmem)
              have HTK := Lib.hid htk
              clear htk
              generalize l.getD M z33 = T at *
              obtain ⟨e0, e1⟩ := HD.out (wr.alloc (.cells #[.int .i64 T.f0, .int .i64 T.f1] 33)) (hbx8.alloc hbx8.size _)
              clear d0 d1
              have hx8 : Below W1.heap.size W1 (wr.alloc (.cells #[.int .i64 T.f0, .int .i64 T.f1] 33)) := hbx8.alloc hbx8.size _
              go_wp2_with fail
              refine (HPT.out _ hx8).mono ?_
              rintro e w9 ⟨rfl, hb9⟩
              have hb9' : Below w3.heap.size w3 w9 := (hbr8.alloc hbr8.size (.cells #[.int .i64 T.f0, .int .i64 T.f1] 33)).trans (hb9.mono (by have := hbr8.size; simp; omega))
              have HO9 := Lib.hid (ownsMap_below (HO8.out.alloc (.cells #[.int .i64 T.f0, .int .i64 T.f1] 33)) hb9)
              go_wp2_with fail
              exact ⟨⟨M + 1, by omega, by go_num, by rw [HTK.out, leastF_snoc], HO9, hb9'⟩, by simp [intOf]; omega⟩
            · obtain rfl : M = l.length := by omega
              have hlm1 : decide ((l.length : Int) < (l.length : Int)) = false := decide_eq_false (by omega)
              clear d0 d1
              obtain ⟨d0, d1⟩ := HD.out _ hbx8
              rw [List.take_length]
              go_wp2_with fail
              go_loopw [114] (fun i wr10 => ∃ (M : Nat), M ≤ l.length ∧ i = .int .i64 (M : Int) ∧ Hid (wr10.ownsMap Try.prog 3 (plainElem Try.prog 3) w3.heap.size (slotsF now l 576).length D) ∧ Below w3.heap.size w3 wr10) (fun i _ => l.length - (intOf i).toNat)
              case atStart => exact ⟨0, by omega, rfl, HO8, hbr8⟩
              case round =>
                obtain ⟨M, hM, rfl, HO10, hbr10⟩ := hrel
                have hbx10 : Below W1.heap.size W1 wr := hb13.trans (hbr10.mono hs3)
                by_cases hlm : M < l.length
                · have hlm1 : decide ((M : Int) < (l.length : Int)) = true := decide_eq_true (by omega)
                  obtain ⟨ad, rfl, c0, c1⟩ := atN (HR.out _ hbx10) M hlm
                  have hmem : l.getD M z33 ∈ l := by simp [List.getD_eq_getElem?_getD, hlm]
                  have HPT := Lib.hid (HP.out _ hmem)
                  generalize l.getD M z33 = T at *
                  have hx10 : Below W1.heap.size W1 (wr.alloc (.cells #[.int .i64 T.f0, .int .i64 T.f1] 33)) := hbx10.alloc hbx10.size _
                  obtain ⟨e0, e1⟩ := HD.out _ hx10
                  clear d0 d1
                  go_wp2_with fail
                  refine (HPT.out _ hx10).mono ?_
                  rintro e w11 ⟨rfl, hb11⟩
                  have hb11' : Below w3.heap.size w3 w11 := (hbr10.alloc hbr10.size (.cells #[.int .i64 T.f0, .int .i64 T.f1] 33)).trans (hb11.mono (by have := hbr10.size; simp; omega))
                  have HO11 := Lib.hid (ownsMap_below (HO10.out.alloc (.cells #[.int .i64 T.f0, .int .i64 T.f1] 33)) hb11)
                  have k11 : w11.heap[wr.heap.size]? = some (.cells #[.int .i64 T.f0, .int .i64 T.f1] 33 (0, 0)) := blk_below (blk_new _ _) hb11
                  have g1 : w11.cell? ⟨wr.heap.size, 1, none⟩ = some (.int .i64 T.f1) := (blk_cell k11 1).trans rfl
                  clear k11
                  by_cases hc9 : T.f1 = mn
                  · have hlv := HLM.out T hmem hc9
                    rw [hlv]
                    have hc91 : decide (T.f1 = mn) = true := decide_eq_true hc9
                    go_wp2_with fail
                    all_goals exact ⟨⟨M + 1, by omega, by go_num, HO11, hb11'⟩, by simp [intOf]; omega⟩
                  · have hc91 : decide (T.f1 = mn) = false := decide_eq_false hc9
                    go_wp2_with fail
                    all_goals exact ⟨⟨M + 1, by omega, by go_num, HO11, hb11'⟩, by simp [intOf]; omega⟩
                · obtain rfl : M = l.length := by omega
                  have hlm1 : decide ((l.length : Int) < (l.length : Int)) = false := decide_eq_false (by omega)
                  clear d0 d1
                  obtain ⟨d0, d1⟩ := HD.out _ hbx10
                  have hsz : Maps.size D = l.length := by rw [HM.out.sz, slotsF_all HOK.out]
                  go_wp2_with (first | (at_len; (try (refine gate_guard (by rfl) ?_; dsimp only)); refine wpList_len_own _ rfl _ 58 rfl 3 3 Try.underlying58 (plainElem Try.prog 3) w3.heap.size (slotsF now l 576).length D rfl HO10.out ?_; rw [hsz]))
                  go_ret
                  exact ⟨rfl, hb0.trans (hbx10.mono (by omega))⟩
end Go.Proofs.Ytolaaplnoahnkaa.C
