import Derived.Test.YtolaaplnoahnkaaHrow
namespace Go.Proofs.Ytolaaplnoahnkaa.C
open Go.RowKit Go.Sort Go.Proofs.YtolaaplnoahnkaaW.PrintWords Go.Proofs.YtolaaplnoahnkaaW.PrintLast Go.Proofs.YtolaaplnoahnkaaW.PrintMore
set_option linter.unusedVariables false
set_option linter.unusedSimpArgs false

/-! ### slices.Insert of one element -/
def api_Timer_34.f (l0 : List S33) (a1 : Int) (l2 : List S33) : Option (List S33 × List S33) :=
  if l0.length ≤ 1000000 ∧ 0 ≤ a1 ∧ a1 ≤ l0.length ∧ l2.length = 1 then some (l0.take a1.toNat ++ l2 ++ l0.drop a1.toNat, l2) else none

theorem ins_list (cur X V : List Value) (i n : Nat) (hi : i ≤ n) (hX : cur.take (n * 2) = X) (hV : V.length = 2) (hl : X.length = n * 2) :
    let cur1 := cur.take ((i + 1) * 2) ++ X.drop (i * 2) ++ cur.drop ((i + 1) * 2 + (X.drop (i * 2)).length)
    (i + 1) * 2 ≤ cur.length →
    (cur1.take (i * 2) ++ V ++ cur1.drop (i * 2 + V.length)).take ((n + 1) * 2) = X.take (i * 2) ++ V ++ X.drop (i * 2) := by
  intro cur1 hc
  have h1 : cur1.take (i * 2) = X.take (i * 2) := by
    show (cur.take ((i + 1) * 2) ++ X.drop (i * 2) ++ cur.drop _).take (i * 2) = _
    rw [List.append_assoc, List.take_append_of_le_length (by rw [List.length_take]; omega), List.take_take, ← hX, List.take_take]
    congr 1; omega
  have h2 : cur1.drop (i * 2 + V.length) = X.drop (i * 2) ++ cur.drop ((i + 1) * 2 + (X.drop (i * 2)).length) := by
    show (cur.take ((i + 1) * 2) ++ X.drop (i * 2) ++ cur.drop _).drop (i * 2 + V.length) = _
    rw [List.append_assoc, show i * 2 + V.length = (cur.take ((i + 1) * 2)).length by rw [List.length_take, hV]; omega, List.drop_left]
  rw [h1, h2, ← List.append_assoc]
  rw [show (n + 1) * 2 = (X.take (i * 2) ++ V ++ X.drop (i * 2)).length by simp only [List.length_append, List.length_take, List.length_drop, hV, hl]; omega, List.take_left]

theorem grow_list (X V Z : List Value) (i n : Nat) (hi : i ≤ n) (hV : V.length = 2) (hl : X.length = n * 2) (hZ : (n + 1 - i) * 2 ≤ Z.length) :
    let cur := X.take (i * 2) ++ Z
    let cur1 := cur.take (i * 2) ++ V ++ cur.drop (i * 2 + V.length)
    (cur1.take ((i + 1) * 2) ++ X.drop (i * 2) ++ cur1.drop ((i + 1) * 2 + (X.drop (i * 2)).length)).take ((n + 1) * 2) = X.take (i * 2) ++ V ++ X.drop (i * 2) := by
  intro cur cur1
  have hxl : (X.take (i * 2)).length = i * 2 := by rw [List.length_take]; omega
  have h0 : cur.take (i * 2) = X.take (i * 2) := by
    show (X.take (i * 2) ++ Z).take (i * 2) = _
    conv => lhs; rw [← hxl]
    rw [hxl, List.take_left' hxl]
  have h1 : cur1.take ((i + 1) * 2) = X.take (i * 2) ++ V := by
    show (cur.take (i * 2) ++ V ++ _).take ((i + 1) * 2) = _
    rw [h0, List.take_left' (by rw [List.length_append, hxl, hV]; omega)]
  rw [h1, List.take_left' (by simp only [List.length_append, hxl, hV, List.length_drop, hl]; omega)]

theorem flat_one (x : S33) : flat encT [x] = encT x := by simp [flat]

theorem R_info {w : World} {base : Nat} {v : Value} {l : List S33} (h : w.ownsRow base 33 2 v l.length (flat encT l)) (hp : 0 < l.length) :
    ∃ g c cur, v = .slice (some ⟨g, 0, none⟩) l.length c ∧ base ≤ g ∧ w.heap[g]? = some (.cells cur 33 (0, 0)) ∧ l.length ≤ c ∧ c ≤ maxLen ∧ cur.size = c * 2 ∧ cur.toList.take (l.length * 2) = flat encT l := by
  rcases h.2 with ⟨rfl, h0⟩ | h
  · omega
  · exact h

theorem at_copy (w : World) {ops : Array Oper} {rest : List Oper} {o : Oper} {a : Act} {Q : Exit → Act → World → Prop} (hgd : o.guard = none) (d s : Operand)
    (ho : o.op = .call { callee := .builtin .copy, args := #[d, s], argTypes := #[22, 22] }) (g oo dLen dCap : Nat) (ad : Addr) (sLen sCap : Nat) (cur : Array Value) (cs : List Value) (hd : a.eval d = .slice (some ⟨g, oo, none⟩) dLen dCap) (hs : a.eval s = .slice (some ad) sLen sCap)
    (hg : w.heap[g]? = some (.cells cur 33 (0, 0))) (hn : cs.length = Nat.min sLen dLen * 2) (hsrc : ∀ j v, cs[j]? = some v → w.cell? (ad.add j) = some v) (hfit : oo + cs.length ≤ cur.size) (h1 : ∀ v ∈ cs, v.oneCell' = true)
    (W' : World) (hW' : W' = w.setRow g (cur.toList.take oo ++ cs ++ cur.toList.drop (oo + cs.length)).toArray) (h : wpList Try.prog ops Q rest (a.put o.dst (goInt (Nat.min sLen dLen : Nat))) W') : wpList Try.prog ops Q (o :: rest) a w :=
  by
  subst hW'
  exact wpList_copy_runI w hgd d s 22 22 ho _ _ hd hs (run_copyK w 22 22 _ 33 2 g oo dLen dCap ad sLen sCap cur 33 cs Try.underlying22 (by kernel_rfl) hg hn hsrc hfit h1) h

theorem step_copy (w : World) {ops : Array Oper} {o : Oper} {a : Act} {K : Act → World → Prop} {Q : Exit → Act → World → Prop} {E : Prop} (hgd : o.guard = none) (d s : Operand)
    (ho : o.op = .call { callee := .builtin .copy, args := #[d, s], argTypes := #[22, 22] }) (g oo dLen dCap : Nat) (ad : Addr) (sLen sCap : Nat) (cur : Array Value) (cs : List Value) (hd : a.eval d = .slice (some ⟨g, oo, none⟩) dLen dCap) (hs : a.eval s = .slice (some ad) sLen sCap)
    (hg : w.heap[g]? = some (.cells cur 33 (0, 0))) (hn : cs.length = Nat.min sLen dLen * 2) (hsrc : ∀ j v, cs[j]? = some v → w.cell? (ad.add j) = some v) (hfit : oo + cs.length ≤ cur.size) (h1 : ∀ v ∈ cs, v.oneCell' = true)
    (W' : World) (hW' : W' = w.setRow g (cur.toList.take oo ++ cs ++ cur.toList.drop (oo + cs.length)).toArray) (h : K (a.put o.dst (goInt (Nat.min sLen dLen : Nat))) W') : if Region.wanted o (yielded ops a.tmps) = true then Oper.wp Try.prog o a w K Q else E :=
  by
  subst hW'
  exact step_copy_runI hgd d s 22 22 ho _ _ hd hs (run_copyK w 22 22 _ 33 2 g oo dLen dCap ad sLen sCap cur 33 cs Try.underlying22 (by kernel_rfl) hg hn hsrc hfit h1) h

set_option maxRecDepth 100000 in
set_option maxHeartbeats 4000000 in
theorem api_Timer_34.calls (P0_ : Nat → Prop) (u9000_ : Value) (l0 : List (S33)) (a1 : Int) (P2_ : Nat → Prop) (u9001_ : Value) (l2 : List (S33)) (r1 : List (S33)) (r2 : List (S33)) (w0 w : World) (hB : Below w0.heap.size w0 w) (ho0 : Kd.R k33 33 w w0.heap.size P0_ u9000_ l0) (hp0_2 : ∀ k_, P0_ k_ → ¬ P2_ k_) (ho2 : Kd.R k33 33 w w0.heap.size P2_ u9001_ l2) (hp2_0 : ∀ k_, P2_ k_ → ¬ P0_ k_) (h : api_Timer_34.f l0 a1 l2 = some (r1, r2)) :
    Calls Try.prog 34 #[u9000_, .int .i64 a1, u9001_] w fun e w' => ∃ v0_ : Value, e = .returned (v0_) ∧ Kd.R k33 33 w' w0.heap.size (fun k_ => ((P0_ k_ ∨ P2_ k_) ∨ w.heap.size ≤ k_) ∧ some k_ ≠ (u9001_ : Value).ownBlock) v0_ r1 ∧ Kd.R k33 33 w' w0.heap.size (fun k_ => ((P0_ k_ ∨ P2_ k_) ∨ w.heap.size ≤ k_)) u9001_ r2 ∧ Below w0.heap.size w0 w' ∧ Kept w w' (fun k_ => P0_ k_ ∨ P2_ k_) := by
  unfold api_Timer_34.f at h
  split at h
  rotate_left
  · cases h
  rename_i hc
  obtain ⟨hn, ha, hb, hl2⟩ := hc
  obtain ⟨i, rfl⟩ := Int.eq_ofNat_of_zero_le ha
  obtain ⟨x, rfl⟩ : ∃ x, l2 = [x] := List.length_eq_one_iff.1 hl2
  simp only [Option.some.injEq, Prod.mk.injEq, Int.ofNat_eq_natCast, Int.toNat_natCast] at h
  obtain ⟨rfl, rfl⟩ := h
  have hi : i ≤ l0.length := by simpa using hb
  have hx0 := T_own ho2
  obtain ⟨vb, vc, vcur, rfl, hvb, hvh, -, -, hvs, hvt⟩ := R_info hx0 (by simp)
  rw [flat_one] at hvt
  have hvt' : vcur.toList.take 2 = encT x := by simpa using hvt
  have hr0 := T_own ho0
  -- how the answer is put together
  have HEND : RowKit.Hid (∀ (v1 : Value) (w1 : World), w1.ownsRow w0.heap.size 33 2 v1 (l0.length + 1) (flat encT (l0.take i ++ [x] ++ l0.drop i)) → w.grownBy w1 u9000_.ownBlock → (v1.ownBlock = u9000_.ownBlock ∨ ∃ b, v1.ownBlock = some b ∧ w.heap.size ≤ b) →
      ∃ v0_ : Value, (Ending.returned v1) = .returned (v0_) ∧ Kd.R k33 33 w1 w0.heap.size (fun k_ => ((P0_ k_ ∨ P2_ k_) ∨ w.heap.size ≤ k_) ∧ some k_ ≠ (Value.slice (some ⟨vb, 0, none⟩) [x].length vc : Value).ownBlock) v0_ (l0.take i ++ [x] ++ l0.drop i) ∧ Kd.R k33 33 w1 w0.heap.size (fun k_ => ((P0_ k_ ∨ P2_ k_) ∨ w.heap.size ≤ k_)) (.slice (some ⟨vb, 0, none⟩) [x].length vc) [x] ∧ Below w0.heap.size w0 w1 ∧ Kept w w1 (fun k_ => P0_ k_ ∨ P2_ k_)) := by
    intro v1 w1 hown hg hat
    have hlv : ∀ k, u9000_.ownBlock = some k → w0.heap.size ≤ k ∧ k < w.heap.size := World.ownsRow.lt hr0
    have hvbw : vb < w.heap.size := (Array.getElem?_eq_some_iff.1 hvh).1
    have hP0 := ho0.1
    have hP2 : P2_ vb := ho2.1 vb rfl
    have hne : some vb ≠ u9000_.ownBlock := fun e => hp0_2 vb (hP0 vb e.symm) hP2
    have hlen : (l0.take i ++ [x] ++ l0.drop i).length = l0.length + 1 := by simp; omega
    refine ⟨_, rfl, T_mk (by rw [hlen]; exact hown) (fun g hgv => ?_), T_mk (hx0.kept hg (.inr hne)) (fun g hgv => .inl (.inr (ho2.1 g hgv))), hB.grown hg hB.size (fun g hg => (hlv g hg).1), ⟨hg.size, fun k hk hk' => hg.block k hk (fun e => hk' (.inl (hP0 k e.symm)))⟩⟩
    rcases hat with h1 | ⟨b, h1, h2⟩
    · have := hP0 g (h1.symm.trans hgv)
      refine ⟨.inl (.inl this), fun e => ?_⟩
      have e : g = vb := by simpa [Value.ownBlock] using e
      subst e
      exact hp0_2 _ this hP2
    · obtain rfl : b = g := Option.some.inj (h1.symm.trans hgv)
      refine ⟨.inr h2, fun e => ?_⟩
      have e : b = vb := by simpa [Value.ownBlock] using e
      omega
  have hx0' := hx0
  rcases Nat.lt_or_ge i l0.length with hlt | hge
  · -- inside
    obtain ⟨g, c, cur, rfl, hgb, hgh, hgc, hcm, hcs, hct⟩ := R_info hr0 (by omega)
    have hgv : g ≠ vb := fun e => hp0_2 g (ho0.1 g rfl) (e ▸ ho2.1 vb rfl)
    have hcm' : c ≤ 9223372036854775807 := hcm
    have hX : ∀ u ∈ flat encT l0, u.oneCell' = true := encT_one l0
    have hV : ∀ u ∈ encT x, u.oneCell' = true := by intro u hu; simp [encT] at hu; rcases hu with rfl | rfl <;> rfl
    have hXl : (flat encT l0).length = l0.length * 2 := flat_len encT_len l0
    have hnews : ∀ j u, (encT x)[j]? = some u → w.cell? ((⟨vb, 0, none⟩ : Addr).add j) = some u := fun j u hu => hx0.cells rfl j u (by rw [flat_one]; exact hu)
    have hdl : ((flat encT l0).drop (i * 2)).length = (l0.length - i) * 2 := by rw [List.length_drop, hXl, Nat.sub_mul]
    have hfin : flat encT (l0.take i ++ [x] ++ l0.drop i) = (flat encT l0).take (i * 2) ++ encT x ++ (flat encT l0).drop (i * 2) := by
      rw [flat_app, flat_app, flat_one, flat_take encT_len, flat_drop encT_len]
    have hz1 : ¬ ((i : Int) = (l0.length : Int)) := by omega
    have hw1 : IntKind.i64.wrap ((i : Int) + 1) = (i : Int) + 1 := by rw [IntKind.wrap_i64]; omega
    have hb1 : (0 : Int) ≤ (i : Int) + 1 := by omega
    have hin : i ≤ l0.length := by omega
    have htn : ((i : Int) + 1).toNat = i + 1 := by omega
    have hb3 : (i : Int) ≤ (l0.length : Int) + 1 := by omega
    have hb4 : ¬ (c = i) := by omega
    by_cases hroom : l0.length + 1 ≤ c
    · have hb2 : ¬ (c = i + 1) := by omega
      have hov : ∀ o lb cb, (callFunc 46 #[.slice (some ⟨vb, 0, none⟩) 1 vc, .slice (some ⟨g, o, none⟩) lb cb]).run Try.prog w = .ok (.value (.bool false)) w := fun o lb cb => by
        rw [run_callFunc_extern Try.func46 (by kernel_rfl) (by kernel_rfl) (by kernel_rfl) (e := Extern.SlicesOverlaps.overlaps #[22, 22] #[4]) (by kernel_rfl),
          Lib.run_overlaps_apart w 22 4 33 Try.underlying22 2 Try.sizeOf33 ⟨vb, 0, none⟩ ⟨g, o, none⟩ 1 vc lb cb (fun e => hgv e.symm) 33 33 vcur.size cur.size (by simp [World.shape?, hvh]) (by simp [World.shape?, hgh]) (by omega) (by simp [World.frozen?, hvh]) (by simp [World.frozen?, hvh])]
        rfl
      have hsrc1 : ∀ j v, ((flat encT l0).drop (i * 2))[j]? = some v → w.cell? ((⟨g, i * 2, none⟩ : Addr).add j) = some v := fun j v hj => by
        have := hr0.cells rfl (i * 2 + j) v (by rwa [List.getElem?_drop] at hj)
        simpa [Addr.add_lit] using this
      obtain ⟨cur1, hcur1⟩ : ∃ cur1 : Array Value, cur1 = (cur.toList.take ((i + 1) * 2) ++ (flat encT l0).drop (i * 2) ++ cur.toList.drop ((i + 1) * 2 + ((flat encT l0).drop (i * 2)).length)).toArray := ⟨_, rfl⟩
      have hc1s : cur1.size = cur.size := by
        rw [hcur1]; simp only [List.size_toArray, List.length_append, List.length_take, List.length_drop, Array.length_toList, hXl]; omega
      obtain ⟨W1, hW1⟩ : ∃ W1, W1 = w.drew.setRow g cur1 := ⟨_, rfl⟩
      have hW1g : W1.heap[g]? = some (.cells cur1 33 (0, 0)) := by rw [hW1]; exact setRow_heap _ g cur cur1 33 (0, 0) hgh
      have hW1v : ∀ j u, (encT x)[j]? = some u → W1.cell? ((⟨vb, 0, none⟩ : Addr).add j) = some u := fun j u hu => by
        rw [hW1, cell_setRow_other _ _ _ _ (by simpa [Addr.add_lit] using fun e => hgv (Eq.symm e))]
        exact hnews j u hu
      have hfin2 := ins_list cur.toList (flat encT l0) (encT x) i l0.length hin hct rfl hXl (by rw [Array.length_toList, hcs]; omega)
      obtain ⟨W2, hW2⟩ : ∃ W2, W2 = W1.setRow g (cur1.toList.take (i * 2) ++ encT x ++ cur1.toList.drop (i * 2 + (encT x).length)).toArray := ⟨_, rfl⟩
      have hW2o : W2.ownsRow w0.heap.size 33 2 (.slice (some ⟨g, 0, none⟩) (l0.length + 1) c) (l0.length + 1) (flat encT (l0.take i ++ [x] ++ l0.drop i)) := by
        refine ⟨by rw [flat_len encT_len]; simp; omega, .inr ⟨g, c, _, rfl, hgb, by rw [hW2]; exact setRow_heap _ g cur1 _ 33 (0, 0) hW1g, hroom, hcm, ?_, ?_⟩⟩
        · have : (encT x).length = 2 := rfl
          simp only [List.size_toArray, List.length_append, List.length_take, List.length_drop, Array.length_toList, hc1s, hcs, this]; omega
        · rw [hfin, hcur1]; exact hfin2
      have hgr : w.grownBy W2 (some g) := by
        rw [hW2, hW1]
        exact World.grownBy.trans (World.grownBy.trans (b := w.drew) ⟨rfl, rfl, rfl, Nat.le_refl _, fun _ _ _ => rfl⟩ (grown_setRow _ _ _)) (grown_setRow _ _ _)
      have hW1c := hW1
      rw [hcur1] at hW1c
      have HW1 := Lib.hid hW1c
      have HW2 := Lib.hid hW2
      clear hcur1 hfin2 hW1 hW1c hW2 hr0 ho0 ho2 hx0 hx0' hB
      go_enter Try.func34, Try.ntmps34
      go_wp2_with (simp only [hov])
      go_region_law (refine step_copy w.drew rfl _ _ rfl g ((i + 1) * 2) (l0.length - i) (c - (i + 1)) ⟨g, i * 2, none⟩ (l0.length + 1 - i) (c - i) cur ((flat encT l0).drop (i * 2)) (by simp [Act.eval, Act.put]) (by simp [Act.eval, Act.put]) hgh (by rw [hdl]; simp only [Nat.min_def]; split <;> omega) hsrc1 (by rw [hdl]; omega) (fun v hv => hX v (List.mem_of_mem_drop hv)) W1 HW1.out ?_)
      have tst : (encT x).length = Nat.min 1 (l0.length + 1 - i) * 2 := by show 2 = _; simp only [Nat.min_def]; split <;> omega
      have tst2 : i * 2 + (encT x).length ≤ cur1.size := by show i * 2 + 2 ≤ _; omega
      have HT := Lib.hid tst
      have HT2 := Lib.hid tst2
      clear tst tst2
      go_wp2_with (refine at_copy W1 rfl _ _ rfl g (i * 2) (l0.length + 1 - i) (c - i) ⟨vb, 0, none⟩ 1 vc cur1 (encT x) rfl rfl hW1g HT.out hW1v HT2.out hV W2 HW2.out ?_)
      go_ret
      obtain ⟨v0, e1, e2, e3, e4, e5⟩ := HEND.out _ W2 hW2o hgr (.inl rfl)
      exact ⟨v0, e1, by simpa using e2, by simpa using e3, e4, e5⟩
    · have hkk : (l0.length : Int) + 1 - (i : Int) = ((l0.length + 1 - i : Nat) : Int) := by omega
      have hik : i + (l0.length + 1 - i) = l0.length + 1 := by omega
      have hz3 : (c : Int) < (l0.length : Int) + 1 := by omega
      obtain ⟨i0, hi0, hz0, hzs, hzb⟩ := info_parts info33
      have hold : (Builtin.firstCells i0.size i (.slice (some ⟨g, 0, none⟩) i c)).run Try.prog w.drew = .ok ((flat encT l0).take (i * 2)).toArray w.drew := by
        rw [hzs]
        exact run_firstCells_some w.drew 2 i ⟨g, 0, none⟩ i c ((flat encT l0).take (i * 2)) (by rw [List.length_take, hXl]; omega) (fun j v hj => by
          rw [List.getElem?_take] at hj
          split at hj
          · exact hr0.cells rfl j v hj
          · cases hj)
      obtain ⟨G, hG⟩ : ∃ G, G = grownCap w (l0.length + 1) c 33 := ⟨_, rfl⟩
      obtain ⟨ROW, hROW⟩ : ∃ ROW : Array Value, ROW = ((flat encT l0).take (i * 2)).toArray ++ Builtin.zeroCells (Value.agg #[.int .i64 0, .int .i64 0]).cells (l0.length + 1 - i) ++ Builtin.zeroCells (Value.agg #[.int .i64 0, .int .i64 0]).cells (G - (l0.length + 1)) := ⟨_, rfl⟩
      obtain ⟨W1, hW1⟩ : ∃ W1, W1 = w.drew.alloc (.cells ROW 33) := ⟨_, rfl⟩
      have hrz : ∀ ty, (Builtin.append_ #[22, 3] ty #[.slice (some ⟨g, 0, none⟩) i c, .int .i64 ((l0.length : Int) + 1 - (i : Int))]).run Try.prog w = .ok (.slice (some ⟨w.heap.size, 0, none⟩) (l0.length + 1) G) W1 := fun ty => by
        have h := Lib.run_append_grow_zeros w 22 3 ty 33 i0 _ .i64 .i64 Try.underlying22 Try.underlying3 hi0 hz0 (some ⟨g, 0, none⟩) i c ((flat encT l0).take (i * 2)) hold (l0.length + 1 - i) (by omega) (by omega) (by omega) (by omega) (by rw [hzb]; omega) (by rw [hzb, hik]; exact growslice_fits (by omega) (by omega))
        rw [hik] at h
        rw [hkk, h, hW1, hROW, hG]
      have hGn : l0.length + 1 ≤ G := by rw [hG]; exact grownCap_ge w _ _ _
      have hG63 : G ≤ maxLen := by rw [hG]; exact grownCap_le_maxLen w (l0.length + 1) c 33 (by unfold maxLen; omega)
      have hG63' : G ≤ 9223372036854775807 := hG63
      have hGi : ¬ (G = i) := by omega
      have hGim : ¬ (G = i + 1) := by omega
      have hRs : ROW.size = G * 2 := by
        rw [hROW]; simp [Builtin.zeroCells, Value.cells, hXl]; omega
      have hZ : ∃ Z : List Value, ROW.toList = (flat encT l0).take (i * 2) ++ Z ∧ (l0.length + 1 - i) * 2 ≤ Z.length := ⟨(Builtin.zeroCells (Value.agg #[.int .i64 0, .int .i64 0]).cells (l0.length + 1 - i)).toList ++ (Builtin.zeroCells (Value.agg #[.int .i64 0, .int .i64 0]).cells (G - (l0.length + 1))).toList, by rw [hROW]; simp only [Array.toList_append, List.append_assoc], by simp [Builtin.zeroCells, Value.cells]⟩
      obtain ⟨Z, hZ1, hZ2⟩ := hZ
      have hfin2 := grow_list (flat encT l0) (encT x) Z i l0.length hin rfl hXl hZ2
      rw [← hZ1] at hfin2
      have hW1g : W1.heap[w.heap.size]? = some (.cells ROW 33 (0, 0)) := by rw [hW1]; exact heap_alloc_new w.drew _
      have hgw : g < w.heap.size := (Array.getElem?_eq_some_iff.1 hgh).1
      have hvw : vb < w.heap.size := (Array.getElem?_eq_some_iff.1 hvh).1
      have hW1v : ∀ j u, (encT x)[j]? = some u → W1.cell? ((⟨vb, 0, none⟩ : Addr).add j) = some u := fun j u hu => by
        have h1 := hnews j u hu
        rw [Addr.add_lit] at h1 ⊢
        rw [hW1]
        exact (World.cell?_of_block (w := w.drew) (heap_alloc_old w.drew _ hvw)).trans h1
      obtain ⟨cur2, hcur2⟩ : ∃ cur2 : Array Value, cur2 = (ROW.toList.take (i * 2) ++ encT x ++ ROW.toList.drop (i * 2 + (encT x).length)).toArray := ⟨_, rfl⟩
      have hc2s : cur2.size = ROW.size := by
        have : (encT x).length = 2 := rfl
        rw [hcur2]; simp only [List.size_toArray, List.length_append, List.length_take, List.length_drop, Array.length_toList, this]; omega
      obtain ⟨W2, hW2⟩ : ∃ W2, W2 = W1.setRow w.heap.size cur2 := ⟨_, rfl⟩
      have hW2g : W2.heap[w.heap.size]? = some (.cells cur2 33 (0, 0)) := by rw [hW2]; exact setRow_heap _ _ ROW cur2 33 (0, 0) hW1g
      have hW2s : ∀ j v, ((flat encT l0).drop (i * 2))[j]? = some v → W2.drew.cell? ((⟨g, i * 2, none⟩ : Addr).add j) = some v := fun j v hj => by
        have h1 := hr0.cells rfl (i * 2 + j) v (by rwa [List.getElem?_drop] at hj)
        show W2.cell? _ = _
        rw [Addr.add_lit] at h1 ⊢
        rw [hW2, cell_setRow_other _ _ _ _ (by show g ≠ w.heap.size; omega), hW1]
        rw [Nat.zero_add] at h1
        exact (World.cell?_of_block (w := w.drew) (heap_alloc_old w.drew _ hgw)).trans h1
      obtain ⟨W3, hW3⟩ : ∃ W3, W3 = W2.drew.setRow w.heap.size (cur2.toList.take ((i + 1) * 2) ++ (flat encT l0).drop (i * 2) ++ cur2.toList.drop ((i + 1) * 2 + ((flat encT l0).drop (i * 2)).length)).toArray := ⟨_, rfl⟩
      have hW3o : W3.ownsRow w0.heap.size 33 2 (.slice (some ⟨w.heap.size, 0, none⟩) (l0.length + 1) G) (l0.length + 1) (flat encT (l0.take i ++ [x] ++ l0.drop i)) := by
        refine ⟨by rw [flat_len encT_len]; simp; omega, .inr ⟨w.heap.size, G, _, rfl, hB.size, by rw [hW3]; exact setRow_heap _ _ cur2 _ 33 (0, 0) hW2g, hGn, hG63, ?_, ?_⟩⟩
        · simp only [List.size_toArray, List.length_append, List.length_take, List.length_drop, Array.length_toList, hc2s, hRs, hXl]; omega
        · rw [hfin, hcur2]; exact hfin2
      have hgr : w.grownBy W3 (some g) := by
        have g1 : w.grownBy W1 none := by rw [hW1]; exact World.grownBy.trans (b := w.drew) ⟨rfl, rfl, rfl, Nat.le_refl _, fun _ _ _ => rfl⟩ (World.grownBy_alloc _ _ _)
        have g2 : W1.grownBy W3 (some w.heap.size) := by
          rw [hW3, hW2]
          exact World.grownBy.trans (World.grownBy.trans (b := W1.setRow w.heap.size cur2) (c := (W1.setRow w.heap.size cur2).drew) (grown_setRow _ _ _) ⟨rfl, rfl, rfl, Nat.le_refl _, fun _ _ _ => rfl⟩) (grown_setRow _ _ _)
        exact ⟨g2.os.trans g1.os, g2.tape.trans g1.tape, g2.output.trans g1.output, Nat.le_trans g1.size g2.size, fun k hk _ => (g2.block k (Nat.lt_of_lt_of_le hk g1.size) (fun e => by injection e with e; omega)).trans (g1.block k hk (by simp))⟩
      have hG2 := hW3
      have HT := Lib.hid (show (encT x).length = Nat.min 1 (l0.length + 1 - i) * 2 by show 2 = _; simp only [Nat.min_def]; split <;> omega)
      have HT2 := Lib.hid (show i * 2 + (encT x).length ≤ ROW.size by show i * 2 + 2 ≤ _; omega)
      have HW2 := Lib.hid (hcur2 ▸ hW2)
      have HW3 := Lib.hid hW3
      clear hik hkk hold hROW hG hZ1 hZ2 hfin2 hcur2 hW1 hW2 hW3 hG2 hr0 ho0 ho2 hx0 hx0' hB
      go_enter Try.func34, Try.ntmps34
      go_wp2_with (first
        | (at_builtin; refine Lib.wpList_append_run _ rfl _ _ _ _ rfl _ _ rfl rfl _ _ (hrz _) ?_)
        | (refine at_copy W1 rfl _ _ rfl w.heap.size (i * 2) (l0.length + 1 - i) (G - i) ⟨vb, 0, none⟩ 1 vc ROW (encT x) rfl rfl hW1g HT.out hW1v HT2.out hV W2 HW2.out ?_))
      go_region_law (refine step_copy W2.drew rfl _ _ rfl w.heap.size ((i + 1) * 2) (l0.length - i) (G - (i + 1)) ⟨g, i * 2, none⟩ (l0.length - i) (c - i) cur2 ((flat encT l0).drop (i * 2)) (by simp [Act.eval, Act.put]) (by simp [Act.eval, Act.put]) hW2g (by rw [hdl]; simp only [Nat.min_def]; split <;> omega) hW2s (by rw [hdl]; omega) (fun v hv => hX v (List.mem_of_mem_drop hv)) W3 HW3.out ?_)
      go_wp2
      go_ret
      obtain ⟨v0, e1, e2, e3, e4, e5⟩ := HEND.out _ W3 hW3o hgr (.inr ⟨_, rfl, Nat.le_refl _⟩)
      exact ⟨v0, e1, by simpa using e2, by simpa using e3, e4, e5⟩
  · -- at the end
    obtain rfl : i = l0.length := by omega
    obtain ⟨i0, hi0, hz0, hz1, hz2⟩ := info_parts info33
    have HR := Lib.hid hr0
    have hnews : ∀ j u, (encT x)[j]? = some u → w.cell? ((⟨vb, 0, none⟩ : Addr).add j) = some u := fun j u hu => hx0.cells rfl j u (by rw [flat_one]; exact hu)
    have HN := Lib.hid hnews
    have hbs : w0.heap.size ≤ w.heap.size := hB.size
    clear hnews hr0 ho0 ho2 hx0 hx0' hB hvh hvt hvt' hb
    obtain ⟨A, c, rfl, hcl⟩ : ∃ A c, u9000_ = .slice A l0.length c ∧ l0.length ≤ c := by
      rcases HR.out.2 with ⟨e, e2⟩ | ⟨g, cap, cur, e, _, _, h1, _⟩
      · exact ⟨none, 0, by rw [e, e2], by omega⟩
      · exact ⟨_, cap, e, h1⟩
    have hnat : (l0.length : Int) ≤ c := by omega
    cases A with
    | none =>
      go_enter Try.func34, Try.ntmps34
      go_wp2_with (at_builtin; refine wpList_append_own_at w rfl _ _ 22 rfl w0.heap.size 33 i0 _ 2 16 Try.underlying22 hi0 hz0 hz1 hz2 rfl (by decide) _ _ _ rfl HR.out ⟨vb, 0, none⟩ 1 vc (encT x) rfl rfl HN.out (by intro u hu; simp [encT] at hu; rcases hu with rfl | rfl <;> rfl) (by unfold maxLen; omega) (by omega) hbs ?_; intro v' w6 hown' hgrow' hnil' hat')
      all_goals (
        go_ret
        obtain ⟨v0, e1, e2, e3, e4, e5⟩ := HEND.out v' w6 (by simpa [flat_app, flat_one] using hown') hgrow' (hat'.imp id fun h => ⟨_, h, Nat.le_refl _⟩)
        exact ⟨v0, e1, by simpa using e2, by simpa using e3, e4, e5⟩)
    | some ad =>
      go_enter Try.func34, Try.ntmps34
      go_wp2_with (at_builtin; refine wpList_append_own_at w rfl _ _ 22 rfl w0.heap.size 33 i0 _ 2 16 Try.underlying22 hi0 hz0 hz1 hz2 rfl (by decide) _ _ _ rfl HR.out ⟨vb, 0, none⟩ 1 vc (encT x) rfl rfl HN.out (by intro u hu; simp [encT] at hu; rcases hu with rfl | rfl <;> rfl) (by unfold maxLen; omega) (by omega) hbs ?_; intro v' w6 hown' hgrow' hnil' hat')
      all_goals (
        go_ret
        obtain ⟨v0, e1, e2, e3, e4, e5⟩ := HEND.out v' w6 (by simpa [flat_app, flat_one] using hown') hgrow' (hat'.imp id fun h => ⟨_, h, Nat.le_refl _⟩)
        exact ⟨v0, e1, by simpa using e2, by simpa using e3, e4, e5⟩)
end Go.Proofs.Ytolaaplnoahnkaa.C
