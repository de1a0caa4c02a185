import Derived.Test.YtolaaplnoahnkaaHnext
import Derived.Lib.SliceRun
import Derived.Lib.AppendZerosOnto
import Derived.Lib.Overlaps
import Derived.Laws.Externs
import Derived.Laws.CopyRow
import Derived.Shelf.Spec.SlicesInsert
namespace Go.Proofs.Ytolaaplnoahnkaa.C
open Go.RowKit Go.Sort Go.Proofs.YtolaaplnoahnkaaW.PrintWords Go.Proofs.YtolaaplnoahnkaaW.PrintLast Go.Proofs.YtolaaplnoahnkaaW.PrintMore
set_option linter.unusedVariables false
set_option linter.unusedSimpArgs false

section
variable {P : Program} (w : World)
/-- copy(d, s), d in a block that is known whole; elements of k cells. -/
theorem run_copyK (dT sT ty elem : TypeId) (k g o dLen dCap : Nat) (a : Addr) (sLen sCap : Nat) (cur : Array Value) (t : TypeId) (cs : List Value)
    (hu : P.underlying dT = some (.slice elem)) (hs : (P.info? elem).map (·.size) = some k) (hg : w.heap[g]? = some (.cells cur t (0, 0))) (hn : cs.length = Nat.min sLen dLen * k)
    (hsrc : ∀ j v, cs[j]? = some v → w.cell? (a.add j) = some v) (hfit : o + cs.length ≤ cur.size) (h1 : ∀ v ∈ cs, v.oneCell' = true) :
    (Builtin.copy_ #[dT, sT] ty #[.slice (some ⟨g, o, none⟩) dLen dCap, .slice (some a) sLen sCap]).run P w =
      .ok (goInt (Nat.min sLen dLen : Nat)) (w.setRow g (cur.toList.take o ++ cs ++ cur.toList.drop (o + cs.length)).toArray) := by
  have hl := run_loadCells_list (P := P) w a cs hsrc
  have hst := run_storeCells_at P g o t cs 0 cur w hg (by simpa using hfit) h1
  cases hq : P.info? elem with
  | none => simp [hq] at hs
  | some i =>
    have hi : i.size = k := by simpa [hq] using hs
    simp [Builtin.copy_, run_underlying hu, Builtin.lenOf, Builtin.firstCells, sizeOf, typeInfo, hq, hi, ← hn, hl, hst]

end

/-- A block that is written whole. -/
theorem grown_setRow (w : World) (g : Nat) (cs : Array Value) : w.grownBy (w.setRow g cs) (some g) :=
  ⟨rfl, rfl, rfl, by simp, fun k _ hk => setRow_other w g k cs (fun e => hk (by rw [e]))⟩

section
variable {α : Type} {enc : α → List Value} {k : Nat}
/-- The cells of elements, one behind the other. -/
def flat (enc : α → List Value) (l : List α) : List Value := l.flatMap enc
theorem flat_len (hk : ∀ x, (enc x).length = k) (l : List α) : (flat enc l).length = l.length * k := by
  induction l with
  | nil => simp [flat]
  | cons x r ih => simp only [flat, List.flatMap_cons, List.length_append, hk, List.length_cons, Nat.add_mul, Nat.one_mul] at ih ⊢; omega
theorem flat_app (l m : List α) : flat enc (l ++ m) = flat enc l ++ flat enc m := by simp [flat]
theorem flat_take (hk : ∀ x, (enc x).length = k) (l : List α) (i : Nat) : flat enc (l.take i) = (flat enc l).take (i * k) := by
  have h : flat enc l = flat enc (l.take i) ++ flat enc (l.drop i) := by rw [← flat_app, List.take_append_drop]
  rcases Nat.lt_or_ge l.length i with hi | hi
  · rw [List.take_of_length_le (Nat.le_of_lt hi), List.take_of_length_le]
    rw [flat_len hk]; exact Nat.mul_le_mul_right _ (Nat.le_of_lt hi)
  · have e : (flat enc (l.take i)).length = i * k := by rw [flat_len hk, List.length_take, Nat.min_eq_left hi]
    rw [h, ← e, List.take_left]
theorem flat_drop (hk : ∀ x, (enc x).length = k) (l : List α) (i : Nat) : flat enc (l.drop i) = (flat enc l).drop (i * k) := by
  have h : flat enc l = flat enc (l.take i) ++ flat enc (l.drop i) := by rw [← flat_app, List.take_append_drop]
  rcases Nat.lt_or_ge l.length i with hi | hi
  · rw [List.drop_of_length_le (Nat.le_of_lt hi), List.drop_of_length_le]
    · rfl
    · rw [flat_len hk]; exact Nat.mul_le_mul_right _ (Nat.le_of_lt hi)
  · have e : (flat enc (l.take i)).length = i * k := by rw [flat_len hk, List.length_take, Nat.min_eq_left hi]
    rw [h, ← e, List.drop_left]
theorem flat_nth (hk : ∀ x, (enc x).length = k) (l : List α) (j : Nat) (p : α) (hj : l[j]? = some p) : ((flat enc l).drop (j * k)).take k = enc p := by
  obtain ⟨hlt, e⟩ := List.getElem?_eq_some_iff.1 hj
  rw [← flat_drop hk, List.drop_eq_getElem_cons hlt, e]
  simp [flat, ← hk p]
theorem flat_reps' (hk : ∀ x, (enc x).length = k) (l : List α) : Reps (fun x cs => cs = enc x) k l (flat enc l) :=
  ⟨flat_len hk l, fun j p hj => flat_nth hk l j p hj⟩
theorem flat_of_reps (hk : ∀ x, (enc x).length = k) (l : List α) (cs : List Value) (h : Reps (fun x cs => cs = enc x) k l cs) : cs = flat enc l := by
  induction l generalizing cs with
  | nil => exact List.eq_nil_of_length_eq_zero (by simpa using h.1)
  | cons x r ih =>
    have hx := h.2 0 x rfl
    have hl := h.1
    simp only [Nat.zero_mul, List.drop_zero, List.length_cons, Nat.add_mul, Nat.one_mul] at hx hl
    have hr : Reps (fun x cs => cs = enc x) k r (cs.drop k) := by
      refine ⟨by rw [List.length_drop, hl]; omega, fun j p hj => ?_⟩
      have := h.2 (j + 1) p (by simpa using hj)
      rwa [Nat.add_mul, Nat.one_mul, Nat.add_comm, ← List.drop_drop] at this
    have e := ih _ hr
    rw [show flat enc (x :: r) = enc x ++ flat enc r by simp [flat], ← e, ← hx, List.take_append_drop]

theorem flat_at (hk : ∀ x, (enc x).length = k) (l : List α) (t : Nat) (u : Value) (h : (flat enc l)[t]? = some u) : ∃ j p, l[j]? = some p ∧ (enc p)[t % k]? = some u ∧ j = t / k ∧ t % k < k := by
  obtain ⟨ht, e⟩ := List.getElem?_eq_some_iff.1 h
  rw [flat_len hk] at ht
  have k0 : 0 < k := by rcases Nat.eq_zero_or_pos k with h | h; · subst h; simp at ht
                        · exact h
  have hj : t / k < l.length := Nat.div_lt_of_lt_mul (by rw [Nat.mul_comm]; exact ht)
  refine ⟨t / k, l[t / k], List.getElem?_eq_getElem hj, ?_, rfl, Nat.mod_lt _ k0⟩
  rw [← flat_nth hk l (t / k) _ (List.getElem?_eq_getElem hj), List.getElem?_take, if_pos (Nat.mod_lt _ k0), List.getElem?_drop, Nat.mul_comm, Nat.div_add_mod]
  exact h

/-- A row that is read, cell by cell. -/
theorem C_cells {d : Kd α} (hdk : d.sz = k) (hk : ∀ x, (enc x).length = k) (hKi : ∀ w x cs, d.K w x cs → cs = enc x) {w : World} {A : Option Addr} {n : Nat} {l : List α} (h : d.C w A n l) (hn : 0 < n) :
    ∃ ad, A = some ad ∧ ∀ t u, (flat enc l)[t]? = some u → w.cell? (ad.add t) = some u := by
  obtain ⟨ad, rfl, hc⟩ := h.2.2 hn
  refine ⟨ad, rfl, fun t u hu => ?_⟩
  obtain ⟨j, p, hj, hu', rfl, hlt⟩ := flat_at hk l t u hu
  obtain ⟨c, hcl, hR, hcell⟩ := hc _ _ hj
  obtain rfl := hKi _ _ _ hR
  have := hcell (t % k) u hu'
  rw [hdk, Nat.mul_comm, Nat.div_add_mod] at this
  exact this
theorem R_own' {d : Kd α} {e : TypeId} (hdk : d.sz = k) (hk : ∀ x, (enc x).length = k) (hMi : ∀ w base ok x cs, d.M w base ok x cs → cs = enc x) {w : World} {base : Nat} {ok : Nat → Prop} {v : Value} {l : List α} (h : d.R e w base ok v l) :
    w.ownsRow base e k v l.length (flat enc l) := by
  obtain ⟨_, inner, ho, hr⟩ := h
  rw [hdk] at ho hr
  rwa [flat_of_reps hk l inner (hr.imp_ (fun p c h => hMi _ _ _ _ _ h))] at ho
theorem R_mk' {d : Kd α} {e : TypeId} (hdk : d.sz = k) (hk : ∀ x, (enc x).length = k) (hM : ∀ w base ok x, d.M w base ok x (enc x)) {w : World} {base : Nat} {ok : Nat → Prop} {v : Value} {l : List α}
    (h : w.ownsRow base e k v l.length (flat enc l)) (hok : ∀ g, v.ownBlock = some g → ok g) : d.R e w base ok v l := by
  refine ⟨hok, flat enc l, by rw [hdk]; exact h, ?_⟩
  rw [hdk]
  exact (flat_reps' hk l).imp_ (fun p c h => by rw [h]; exact hM _ _ _ _)
end

theorem encT_len : ∀ x, (encT x).length = 2 := fun _ => rfl
theorem encT_one : ∀ (l : List S33), ∀ v ∈ flat encT l, v.oneCell' = true := fun l v hv => by
  obtain ⟨x, _, hx⟩ := List.mem_flatMap.1 hv
  simp [encT] at hx; rcases hx with rfl | rfl <;> rfl
theorem T_own {w : World} {base : Nat} {ok : Nat → Prop} {v : Value} {l : List S33} (h : Kd.R k33 33 w base ok v l) : w.ownsRow base 33 2 v l.length (flat encT l) := R_own' rfl encT_len (fun _ _ _ _ _ h => k33_openM h) h
theorem T_mk {w : World} {base : Nat} {ok : Nat → Prop} {v : Value} {l : List S33} (h : w.ownsRow base 33 2 v l.length (flat encT l)) (hok : ∀ g, v.ownBlock = some g → ok g) : Kd.R k33 33 w base ok v l := R_mk' rfl encT_len (fun _ _ _ _ => k33_mkM _ _ _ _) h hok
theorem T_cells {w : World} {A : Option Addr} {n : Nat} {l : List S33} (h : Kd.C k33 w A n l) (hn : 0 < n) : ∃ ad, A = some ad ∧ ∀ t u, (flat encT l)[t]? = some u → w.cell? (ad.add t) = some u := C_cells rfl encT_len (fun _ _ _ h => k33_open h) h hn

/-! ### slices.Clone -/
def api_Timer_33.f (l0 : List S33) : Option (List S33) := if l0.length ≤ 1000000 then some l0 else none
set_option maxRecDepth 100000 in
theorem api_Timer_33.calls (A0 : Option Addr) (c0 : Nat) (l0 : List (S33)) (r : List (S33)) (w : World) (hr0 : Kd.C k33 w A0 l0.length l0) (hc0 : l0.length ≤ c0) (h : api_Timer_33.f l0 = some r) :
    Calls Try.prog 33 #[.slice A0 l0.length c0] w fun e w' => ∃ v0_ : Value, e = .returned (v0_) ∧ Kd.R k33 33 w' w.heap.size (fun _ => True) v0_ r ∧ RowKit.Below w.heap.size w w' := by
  unfold api_Timer_33.f at h
  by_cases hn : l0.length ≤ 1000000
  · rw [if_pos hn] at h
    obtain rfl := Option.some.inj h
    have hnil := fun W n c => Lib.run_eql_slice_nil (P := Try.prog) W 22 33 A0 n c 0 0 Try.underlying22
    cases A0 with
    | none =>
      have h0 : l0.length = 0 := by
        rcases Nat.eq_zero_or_pos l0.length with h | h
        · exact h
        · obtain ⟨ad, e, _⟩ := hr0.2.2 h; cases e
      obtain rfl : l0 = [] := List.eq_nil_of_length_eq_zero h0
      clear hr0 h
      go_enter Try.func33, Try.ntmps33
      go_wp2
      go_ret
      exact ⟨_, rfl, Kd.R_nil _ _ _ _ _, Below.refl _ _⟩
    | some ad =>
      obtain ⟨i0, hi, hz0, hz1, hz2⟩ := info_parts info33
      have hcells : ∀ t u, (flat encT l0)[t]? = some u → w.cell? (ad.add t) = some u := fun t u hu => by
        have hp : 0 < l0.length := by
          have := (List.getElem?_eq_some_iff.1 hu).1
          rw [flat_len encT_len] at this; omega
        obtain ⟨ad', e, hc⟩ := T_cells hr0 hp
        cases e
        exact hc t u hu
      have hcells1 := fun (X : Obj) t u hu => (World.cell?_of_block (w' := w.alloc X) (a := ad.add t) (Below.heap_alloc w X _ (World.block_lt_of_cell? w _ (hcells t u hu)))).trans (hcells t u hu)
      have HC := Lib.hid hcells1
      have hown0 : (w.alloc (.cells #[] 33)).ownsRow w.heap.size 33 2 (.slice (some ⟨w.heap.size, 0, none⟩) 0 0) 0 [] := World.ownsRow_lit w #[] 0 (Nat.le_refl _) (by unfold maxLen; omega) rfl
      have HO := Lib.hid hown0
      clear hcells hcells1 hown0 hr0 h
      go_enter Try.func33, Try.ntmps33
      go_wp2_with (at_builtin; refine wpList_append_own _ rfl _ _ 22 rfl w.heap.size 33 i0 _ 2 16 Try.underlying22 hi hz0 hz1 hz2 rfl (by decide) _ _ _ rfl HO.out ad l0.length c0 (flat encT l0) rfl (flat_len encT_len l0) (HC.out _) (encT_one l0) (by unfold maxLen; omega) (by omega) (by simp) ?_; intro v' w6 hown' hgrow' hnil')
      go_ret
      refine ⟨_, rfl, T_mk (by simpa using hown') (fun _ _ => trivial), ((Below.refl w.heap.size w).alloc (Nat.le_refl _) _).grown hgrow' (by simp) (fun g hg => ?_)⟩
      exact (World.ownsRow.lt HO.out g hg).1
  · rw [if_neg hn] at h; cases h
end Go.Proofs.Ytolaaplnoahnkaa.C
