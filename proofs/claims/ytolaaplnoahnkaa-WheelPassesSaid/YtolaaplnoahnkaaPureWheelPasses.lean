import Derived.Test.YtolaaplnoahnkaaHref
import Derived.Test.YtolaaplnoahnkaaHplaceR
import Derived.Test.YtolaaplnoahnkaaC19
import Derived.Test.YtolaaplnoahnkaaLpass
namespace Go.Proofs.Ytolaaplnoahnkaa.C
open Go.RowKit Go.Sort Go.Proofs.YtolaaplnoahnkaaW.PrintWords Go.Proofs.YtolaaplnoahnkaaW.PrintLast Go.Proofs.YtolaaplnoahnkaaW.PrintMore
set_option linter.unusedVariables false
set_option linter.unusedSimpArgs false

def stepM (now q : Int) (acc : Int) (t : S33) : Int := wrap64 (acc + wrap64 ((placeF now t.f1).1 - (placeF q t.f1).1))
theorem place_in_f (a b : Int) (h0 : 0 ≤ a) (h1 : a ≤ 1125899906842624) (h2 : 0 ≤ b) (h3 : b ≤ 1125899906842624) : wheel_place.f a b = some (placeF a b) := by
  unfold wheel_place.f
  rw [if_pos ⟨h0, by omega, h2, by omega⟩]

section
variable {now q : Int} {l : List S33} (hn0 : 0 ≤ now) (hn1 : now ≤ 1125899906842624) (ht0 : 0 ≤ q) (ht1 : q ≤ 1125899906842624)
include hn0 hn1 ht0 ht1
theorem moves_l0 (hl : ∀ t ∈ l, 0 ≤ t.f1 ∧ t.f1 ≤ 1125899906842624) (hn : l.length ≤ 1000000) (d : Nat) : ∀ (k i : Nat) (acc : Int), i ≤ l.length → l.length - i = d → d < k →
    wheel_Moves.l0 k q acc l l.length i now l = some (((l.drop i).filter (fun x => decide (q < x.f1))).foldl (stepM now q) acc, 0) := by
  induction d with
  | zero =>
    intro k i acc h0 h1 hk
    obtain ⟨k, rfl⟩ : ∃ m, k = m + 1 := ⟨k - 1, by omega⟩
    obtain rfl : i = l.length := by omega
    simp [wheel_Moves.l0]
  | succ d ih =>
    intro k i acc h0 h1 hk
    obtain ⟨k, rfl⟩ : ∃ m, k = m + 1 := ⟨k - 1, by omega⟩
    have hlt : i < l.length := by omega
    have hd : l.drop i = l[i] :: l.drop (i + 1) := List.drop_eq_getElem_cons hlt
    have hw : wrap64 ((i : Int) + 1) = ((i + 1 : Nat) : Int) := by rw [wrap64_id] <;> omega
    have hli := hl _ (List.getElem_mem hlt)
    simp only [wheel_Moves.l0]
    rw [if_pos (by omega), if_pos (by omega), if_pos (by omega), rd_at l i hlt, hw, hd]
    by_cases c : l[i].f1 > q
    · rw [if_pos c, place_in_f now _ hn0 hn1 hli.1 hli.2, place_in_f q _ ht0 ht1 hli.1 hli.2]
      simp only [Option.bind_some]
      have e1 : wrap64 (acc + wrap64 ((placeF now l[i].f1).1 - (placeF q l[i].f1).1)) = stepM now q acc l[i] := rfl
      rw [e1, ih k (i + 1) _ (by omega) (by omega) (by omega), List.filter_cons_of_pos (p := fun x : S33 => decide (q < x.f1)) (by simpa using c), List.foldl_cons]
    · rw [if_neg c, ih k (i + 1) _ (by omega) (by omega) (by omega), List.filter_cons_of_neg (p := fun x : S33 => decide (q < x.f1)) (by simpa using c)]
end

def movesF (now : Int) (l : List S33) (q : Int) : Int × Int :=
  if okW now l = true then (if q < now ∨ 1125899906842624 < q then (0, 2) else ((l.filter (fun x => decide (q < x.f1))).foldl (stepM now q) 0, 0)) else (0, 250)
theorem moves_k (now : Int) (l : List S33) (q : Int) (hn : l.length ≤ 1000000) (k : Nat) (hk : l.length + 2 ≤ k) : wheel_Moves.f k now l q = some (movesF now l q) := by
  unfold wheel_Moves.f movesF
  rw [passes_k now l q hn k hk]
  simp only [Option.bind_some]
  cases hok : okW now l with
  | false => simp
  | true =>
    simp only [if_true]
    by_cases c : q < now ∨ 1125899906842624 < q
    · simp [c]
    · rw [if_neg c, if_neg c, if_pos rfl]
      obtain ⟨h0, h1, h2⟩ := okW_all hok
      have := moves_l0 (l := l) h0 h1 (q := q) (by omega) (by omega) (fun t ht => by have := okW_mem hok ht; omega) hn l.length k 0 0 (by omega) (by omega) (by omega)
      simp only [List.drop_zero] at this
      exact this

/-! The document's Pass. -/
def insF : List S33 → S33 → List S33
  | [], e => [e]
  | a :: r, e => if a.f1 > e.f1 then e :: a :: r else a :: insF r e
theorem insF_len (l : List S33) (e : S33) : (insF l e).length = l.length + 1 := by
  induction l with
  | nil => rfl
  | cons a r ih => unfold insF; split <;> simp [ih]
theorem insF_perm (l : List S33) (e : S33) : (insF l e).Perm (e :: l) := by
  induction l with
  | nil => exact List.Perm.refl _
  | cons a r ih =>
    unfold insF; split
    · exact List.Perm.refl _
    · exact (List.Perm.cons a ih).trans (List.Perm.swap _ _ _)

theorem refPass_l1t (q : Int) (x7 : List S33) (i8 : Int) (e : S33) (now : Int) (l want : List S33) (b : Int) (hn : x7.length ≤ 1000000) (d : Nat) : ∀ (k i : Nat) (acc : List S33), i ≤ x7.length → x7.length - i = d → acc.length + d ≤ 2000000 →
    mainsheetref15_Pass.l1 (k + (d + 1)) q x7 i8 acc true i now l b want e.f0 e.f1 = mainsheetref15_Pass.l0 k q (acc ++ x7.drop i) (wrap64 (i8 + 1)) now l b want := by
  induction d with
  | zero =>
    intro k i acc h0 h1 h2
    obtain rfl : i = x7.length := by omega
    show mainsheetref15_Pass.l1 (k + 1) _ _ _ _ _ _ _ _ _ _ _ _ = _
    simp [mainsheetref15_Pass.l1]
  | succ d ih =>
    intro k i acc h0 h1 h2
    have hlt : i < x7.length := by omega
    have hd : x7.drop i = x7[i] :: x7.drop (i + 1) := List.drop_eq_getElem_cons hlt
    have hw : wrap64 ((i : Int) + 1) = ((i + 1 : Nat) : Int) := by rw [wrap64_id] <;> omega
    obtain ⟨K, hK⟩ : ∃ K, K = k + (d + 1) := ⟨_, rfl⟩
    rw [show k + (d + 1 + 1) = K + 1 by omega]
    simp only [mainsheetref15_Pass.l1]
    subst hK
    rw [if_pos (by omega), if_pos trivial, if_pos (by omega), if_pos (by omega), rd_at x7 i hlt, hw, ih k (i + 1) _ (by omega) (by omega) (by simp; omega), hd, List.append_assoc]
    rfl
theorem refPass_l1f (q : Int) (x7 : List S33) (i8 : Int) (e : S33) (now : Int) (l want : List S33) (b : Int) (hn : x7.length ≤ 1000000) (d : Nat) : ∀ (k i : Nat) (acc : List S33), i ≤ x7.length → x7.length - i = d → acc.length + d ≤ 1900000 →
    mainsheetref15_Pass.l1 (k + (d + 1)) q x7 i8 acc false i now l b want e.f0 e.f1 = mainsheetref15_Pass.l0 k q (acc ++ insF (x7.drop i) e) (wrap64 (i8 + 1)) now l b want := by
  induction d with
  | zero =>
    intro k i acc h0 h1 h2
    obtain rfl : i = x7.length := by omega
    show mainsheetref15_Pass.l1 (k + 1) _ _ _ _ _ _ _ _ _ _ _ _ = _
    have : acc.length < 8796093022208 := by omega
    simp [mainsheetref15_Pass.l1, insF, this]
  | succ d ih =>
    intro k i acc h0 h1 h2
    have hlt : i < x7.length := by omega
    have hd : x7.drop i = x7[i] :: x7.drop (i + 1) := List.drop_eq_getElem_cons hlt
    have hw : wrap64 ((i : Int) + 1) = ((i + 1 : Nat) : Int) := by rw [wrap64_id] <;> omega
    obtain ⟨K, hK⟩ : ∃ K, K = k + (d + 1) := ⟨_, rfl⟩
    rw [show k + (d + 1 + 1) = K + 1 by omega]
    simp only [mainsheetref15_Pass.l1]
    subst hK
    rw [if_pos (by omega), if_neg (by simp), if_pos (by omega), rd_at x7 i hlt, hw, hd]
    by_cases c : x7[i].f1 > e.f1
    · rw [if_pos c, if_pos (by omega)]
      simp only [Option.bind_some]
      rw [if_pos (by simp; omega), refPass_l1t q x7 i8 e now l want b hn d k (i + 1) _ (by omega) (by omega) (by simp; omega)]
      simp only [insF]
      rw [if_pos c, List.append_assoc, List.append_assoc]
      rfl
    · rw [if_neg c, if_pos (by omega), ih k (i + 1) _ (by omega) (by omega) (by simp; omega)]
      simp only [insF]
      rw [if_neg c, List.append_assoc]
      rfl
/-- What it spends. -/
def passCost : List S33 → Int → Nat → Nat
  | [], _, _ => 1
  | t :: r, q, n => if t.f1 > q then 1 + passCost r q n else 1 + (n + 1) + passCost r q (n + 1)
theorem passCost_le (q : Int) : ∀ (l : List S33) (n : Nat), passCost l q n ≤ 1 + l.length * (n + l.length + 2)
  | [], n => by simp [passCost]
  | t :: r, n => by
    have h1 := passCost_le q r n
    have h2 := passCost_le q r (n + 1)
    unfold passCost
    have e : (t :: r).length = r.length + 1 := rfl
    rw [e]
    have m1 : r.length * (n + r.length + 2) ≤ r.length * (n + 1 + r.length + 2) := Nat.mul_le_mul_left _ (by omega)
    have m2 : (r.length + 1) * (n + (r.length + 1) + 2) = r.length * (n + 1 + r.length + 2) + (n + (r.length + 1) + 2) := by
      rw [Nat.add_mul, Nat.one_mul]; congr 2; omega
    split <;> omega
theorem refPass_l0 (q : Int) (now : Int) (l : List S33) (b : Int) (hn : l.length ≤ 1000) (d : Nat) : ∀ (k i : Nat) (fires want : List S33), i ≤ l.length → l.length - i = d → fires.length ≤ i → want.length ≤ i →
    mainsheetref15_Pass.l0 (k + passCost (l.drop i) q fires.length) q fires i now l b want =
      some (b, want ++ (l.drop i).filter (fun x => decide (q < x.f1)), ((l.drop i).filter (fun x => decide (x.f1 ≤ q))).foldl insF fires) := by
  induction d with
  | zero =>
    intro k i fires want h0 h1 hf hw
    obtain rfl : i = l.length := by omega
    simp only [List.drop_length, passCost]
    simp [mainsheetref15_Pass.l0]
  | succ d ih =>
    intro k i fires want h0 h1 hf hwn
    have hlt : i < l.length := by omega
    have hd : l.drop i = l[i] :: l.drop (i + 1) := List.drop_eq_getElem_cons hlt
    have hw : wrap64 ((i : Int) + 1) = ((i + 1 : Nat) : Int) := by rw [wrap64_id] <;> omega
    rw [hd]
    by_cases c : l[i].f1 > q
    · rw [show k + passCost (l[i] :: l.drop (i + 1)) q fires.length = (k + passCost (l.drop (i + 1)) q fires.length) + 1 by simp only [passCost]; rw [if_pos c]; omega]
      simp only [mainsheetref15_Pass.l0]
      rw [if_pos (by omega), if_pos (by omega), rd_at l i hlt, if_pos c, if_pos (by omega), hw, ih k (i + 1) _ _ (by omega) (by omega) (by omega) (by simp; omega)]
      rw [List.filter_cons_of_pos (p := fun x : S33 => decide (q < x.f1)) (by simpa using c), List.filter_cons_of_neg (p := fun x : S33 => decide (x.f1 ≤ q)) (by simpa using c), List.append_assoc]
      rfl
    · rw [show k + passCost (l[i] :: l.drop (i + 1)) q fires.length = ((k + passCost (l.drop (i + 1)) q (fires.length + 1)) + (fires.length + 1)) + 1 by simp only [passCost]; rw [if_neg c]; omega]
      simp only [mainsheetref15_Pass.l0]
      rw [if_pos (by omega), if_pos (by omega), rd_at l i hlt, if_neg c]
      have h1 := refPass_l1f q fires i l[i] now l want b (by omega) fires.length (k + passCost (l.drop (i + 1)) q (fires.length + 1)) 0 [] (by omega) (by omega) (by simp; omega)
      simp only [List.drop_zero, List.nil_append] at h1
      have h1' := h1
      rw [show ((0 : Nat) : Int) = 0 from rfl] at h1'
      rw [h1', hw]
      have h2 := ih k (i + 1) (insF fires l[i]) want (by omega) (by omega) (by rw [insF_len]; omega) (by omega)
      rw [insF_len] at h2
      rw [h2]
      rw [List.filter_cons_of_neg (p := fun x : S33 => decide (q < x.f1)) (by simpa using c), List.filter_cons_of_pos (p := fun x : S33 => decide (x.f1 ≤ q)) (by simp; omega)]
      rfl

/-- Timers that rise by number, put in one by one, stand as they fire. -/
def Fire (l : List S33) : Prop := l.Pairwise (fun a b => ltOf ordF b a = false)
theorem insF_fire (l : List S33) (e : S33) (h : Fire l) (he : ∀ t ∈ l, t.f0 < e.f0) : Fire (insF l e) := by
  induction l with
  | nil => exact List.pairwise_singleton _ _
  | cons a r ih =>
    have h' := List.pairwise_cons.1 h
    unfold insF
    split
    · rename_i c
      refine List.pairwise_cons.2 ⟨fun b hb => ?_, h⟩
      rw [ordF_lt, decide_eq_false_iff_not]
      rcases List.mem_cons.1 hb with rfl | hb
      · omega
      · have := h'.1 b hb
        rw [ordF_lt, decide_eq_false_iff_not] at this
        omega
    · rename_i c
      refine List.pairwise_cons.2 ⟨fun b hb => ?_, ih h'.2 (fun t ht => he t (List.mem_cons_of_mem _ ht))⟩
      rcases List.mem_cons.1 ((insF_perm r e).mem_iff.1 hb) with rfl | hb
      · rw [ordF_lt, decide_eq_false_iff_not]
        have := he a List.mem_cons_self
        omega
      · exact h'.1 b hb
theorem fold_fire : ∀ (m fires : List S33), Rise m → Fire fires → (∀ a ∈ fires, ∀ b ∈ m, a.f0 < b.f0) → Fire (m.foldl insF fires) ∧ (m.foldl insF fires).Perm (fires ++ m)
  | [], fires, _, hf, _ => ⟨hf, by simp⟩
  | e :: m, fires, hm, hf, hx => by
    have hm' := List.pairwise_cons.1 hm
    obtain ⟨h1, h2⟩ := fold_fire m (insF fires e) hm'.2 (insF_fire fires e hf (fun t ht => hx t ht e List.mem_cons_self)) (fun a ha b hb => by
      rcases List.mem_cons.1 ((insF_perm fires e).mem_iff.1 ha) with rfl | ha
      · exact hm'.1 b hb
      · exact hx a ha b (List.mem_cons_of_mem _ hb))
    refine ⟨h1, h2.trans ?_⟩
    refine ((insF_perm fires e).append_right m).trans ?_
    simpa using (List.perm_middle (a := e) (l₁ := fires) (l₂ := m)).symm
theorem fires_sort (l : List S33) (p : S33 → Bool) (h : Rise l) : (l.filter p).foldl insF [] = sortT (l.filter p) := by
  have hr : Rise (l.filter p) := List.Pairwise.sublist List.filter_sublist h
  obtain ⟨h1, h2⟩ := fold_fire (l.filter p) [] hr List.Pairwise.nil (fun a ha => by cases ha)
  exact sortT_unique _ _ (by simpa using h2) h1

theorem refPass_k (now : Int) (l : List S33) (q : Int) (hr : Rise l) (hn : l.length ≤ 32) (k : Nat) (hk : 3000 ≤ k) : mainsheetref15_Pass.f k now l q = some (q, l.filter (fun x => decide (q < x.f1)), sortT (l.filter (fun x => decide (x.f1 ≤ q)))) := by
  unfold mainsheetref15_Pass.f
  have hc := passCost_le q l 0
  have hm : l.length * (0 + l.length + 2) ≤ 32 * 34 := Nat.mul_le_mul hn (by omega)
  have := refPass_l0 q now l q (by omega) l.length (k - passCost l q 0) 0 [] [] (by omega) (by omega) (by simp) (by simp)
  simp only [List.drop_zero, List.length_nil, List.nil_append] at this
  rw [show k - passCost l q 0 + passCost l q 0 = k by omega] at this
  rw [show ((0 : Nat) : Int) = 0 from rfl] at this
  rw [this, fires_sort l _ hr]

/-! The law's own loops. -/
def stepL (s : Int) (t : S33) : Int := if s = 0 then t.f1 else if t.f1 < s then t.f1 else s
theorem least_spec : ∀ (l : List S33) (s : Int), 0 < s → (∀ t ∈ l, 0 < t.f1) → l.foldl stepL s ≤ s ∧ (∀ t ∈ l, l.foldl stepL s ≤ t.f1) ∧ (l.foldl stepL s = s ∨ ∃ t ∈ l, l.foldl stepL s = t.f1)
  | [], s, _, _ => ⟨Int.le_refl _, (fun _ h => by cases h), .inl rfl⟩
  | a :: r, s, hs, h => by
    have ha := h a List.mem_cons_self
    have hst : 0 < stepL s a ∧ stepL s a ≤ s ∧ stepL s a ≤ a.f1 ∧ (stepL s a = s ∨ stepL s a = a.f1) := by
      unfold stepL; rw [if_neg (by omega)]; split <;> omega
    obtain ⟨h1, h2, h3⟩ := least_spec r (stepL s a) hst.1 (fun t ht => h t (List.mem_cons_of_mem _ ht))
    simp only [List.foldl_cons]
    refine ⟨by omega, fun t ht => ?_, ?_⟩
    · rcases List.mem_cons.1 ht with rfl | ht
      · omega
      · exact h2 t ht
    · rcases h3 with h3 | ⟨t, ht, h3⟩
      · rcases hst.2.2.2 with h4 | h4
        · exact .inl (by omega)
        · exact .inr ⟨a, List.mem_cons_self, by omega⟩
      · exact .inr ⟨t, List.mem_cons_of_mem _ ht, h3⟩
theorem least_eq (l : List S33) (h : ∀ t ∈ l, 0 < t.f1) (hp : 0 < l.length) : l.foldl stepL 0 = minAt l := by
  cases l with
  | nil => simp at hp
  | cons a r =>
    have ha := h a List.mem_cons_self
    have e : stepL 0 a = a.f1 := by unfold stepL; rw [if_pos rfl]
    simp only [List.foldl_cons, e]
    obtain ⟨h1, h2, h3⟩ := least_spec r a.f1 ha (fun t ht => h t (List.mem_cons_of_mem _ ht))
    obtain ⟨t, ht, h4⟩ := minAt_mem (a :: r) hp
    have h5 := minAt_le (a :: r)
    apply Int.le_antisymm
    · rw [h4]
      rcases List.mem_cons.1 ht with rfl | ht
      · exact h1
      · exact h2 t ht
    · rcases h3 with h3 | ⟨u, hu, h3⟩
      · rw [h3]; exact h5 a List.mem_cons_self
      · rw [h3]; exact h5 u (List.mem_cons_of_mem _ hu)

theorem law_l0 (q : Int) (due : List S33) (e n f next : Int) (any : Bool) (now : Int) (l : List S33) (x : Int) (xl : List S33) (hn : l.length ≤ 1000) (d : Nat) : ∀ (k i : Nat) (s : Int), i ≤ l.length → l.length - i = d →
    mainsheetlaw15_WheelPasses.l0 (k + (d + 1)) q due e n f next any s l l.length i now l x xl =
      (if next = (l.drop i).foldl stepL s then (mainsheetlaw15_WheelPasses.j1 k q due e n f (any != (decide ((l.drop i).foldl stepL s > 0))) now l x xl) else (mainsheetlaw15_WheelPasses.j1 k q due e n f true now l x xl)) := by
  induction d with
  | zero =>
    intro k i s h0 h1
    obtain rfl : i = l.length := by omega
    show mainsheetlaw15_WheelPasses.l0 (k + 1) _ _ _ _ _ _ _ _ _ _ _ _ _ _ _ = _
    simp only [mainsheetlaw15_WheelPasses.l0]
    rw [if_neg (by omega), List.drop_length]
    rfl
  | succ d ih =>
    intro k i s h0 h1
    have hlt : i < l.length := by omega
    have hd : l.drop i = l[i] :: l.drop (i + 1) := List.drop_eq_getElem_cons hlt
    have hw : wrap64 ((i : Int) + 1) = ((i + 1 : Nat) : Int) := by rw [wrap64_id] <;> omega
    obtain ⟨K, hK⟩ : ∃ K, K = k + (d + 1) := ⟨_, rfl⟩
    rw [show k + (d + 1 + 1) = K + 1 by omega]
    simp only [mainsheetlaw15_WheelPasses.l0]
    subst hK
    rw [if_pos (by omega), if_pos (by omega), if_pos (by omega), rd_at l i hlt, hw, ih k (i + 1) _ (by omega) (by omega), ih k (i + 1) _ (by omega) (by omega), hd]
    generalize hL : List.foldl stepL s (l[i] :: List.drop (i + 1) l) = L
    rw [List.foldl_cons] at hL
    by_cases c1 : s = 0
    · have h1 : stepL s l[i] = l[i].f1 := by unfold stepL; rw [if_pos c1]
      rw [h1] at hL
      rw [if_pos c1, hL]
    · rw [if_neg c1]
      by_cases c2 : l[i].f1 < s
      · have h1 : stepL s l[i] = l[i].f1 := by unfold stepL; rw [if_neg c1, if_pos c2]
        rw [h1] at hL
        rw [if_pos c2, hL]
      · have h1 : stepL s l[i] = s := by unfold stepL; rw [if_neg c1, if_neg c2]
        rw [h1] at hL
        rw [if_neg c2, hL]

theorem law_l1 (q : Int) (due : List S33) (e n f : Int) (fires : List S33) (now : Int) (l : List S33) (x : Int) (xl : List S33) (b : Int) (want : List S33) (hn0 : 0 ≤ now) (hn1 : now ≤ 1125899906842624) (ht0 : 0 ≤ q) (ht1 : q ≤ 1125899906842624)
    (hl : ∀ t ∈ want, 0 ≤ t.f1 ∧ t.f1 ≤ 1125899906842624) (hn : want.length ≤ 1000) (d : Nat) : ∀ (k i : Nat) (s : Int), i ≤ want.length → want.length - i = d → 30 ≤ k →
    mainsheetlaw15_WheelPasses.l1 (k + (d + 1)) q due e n f fires s want want.length i now l x xl b want =
      (if e = 0 then (if f = 0 then ((mainsheetref15_Same.f k x xl b want).bind fun t380 => (if t380 = true then ((mainsheetref15_SameTimers.f k due fires).bind fun t381 => (if t381 = true then (some (n == (want.drop i).foldl (stepM now q) s)) else (some false))) else (some false))) else (some false)) else (some false)) := by
  induction d with
  | zero =>
    intro k i s h0 h1 hk
    obtain rfl : i = want.length := by omega
    show mainsheetlaw15_WheelPasses.l1 (k + 1) _ _ _ _ _ _ _ _ _ _ _ _ _ _ _ _ = _
    simp only [mainsheetlaw15_WheelPasses.l1]
    rw [if_neg (by omega), List.drop_length, List.foldl_nil]
  | succ d ih =>
    intro k i s h0 h1 hk
    have hlt : i < want.length := by omega
    have hd : want.drop i = want[i] :: want.drop (i + 1) := List.drop_eq_getElem_cons hlt
    have hw : wrap64 ((i : Int) + 1) = ((i + 1 : Nat) : Int) := by rw [wrap64_id] <;> omega
    have hli := hl _ (List.getElem_mem hlt)
    obtain ⟨K, hK⟩ : ∃ K, K = k + (d + 1) := ⟨_, rfl⟩
    rw [show k + (d + 1 + 1) = K + 1 by omega]
    simp only [mainsheetlaw15_WheelPasses.l1]
    have hK30 : 30 ≤ K := by omega
    rw [if_pos (by omega), if_pos (by omega), if_pos (by omega), rd_at want i hlt, placeR_k now _ hn0 (by omega) hli.1 (by omega) _ (by omega), placeR_k q _ ht0 (by omega) hli.1 (by omega) _ (by omega)]
    simp only [Option.bind_some]
    have e1 : wrap64 (s + wrap64 ((placeF now want[i].f1).1 - (placeF q want[i].f1).1)) = stepM now q s want[i] := rfl
    have ih' := ih k (i + 1) (stepM now q s want[i]) (by omega) (by omega) hk
    rw [← hK] at ih'
    rw [hw, e1, ih', hd, List.foldl_cons]

theorem wheelPasses_true (now : Int) (l : List S33) (q : Int) : mainsheetlaw15_WheelPasses.f 4000 now l q = some true := by
  unfold mainsheetlaw15_WheelPasses.f
  rw [wakes_k 4000 (by omega)]
  simp only [Option.bind_some, if_true]
  by_cases h100 : (l.length : Int) > 100
  · rw [if_pos h100]
  rw [if_neg h100]
  have hn : l.length ≤ 100 := by omega
  rw [copied_f now l (by omega)]
  simp only [Option.bind_some]
  have hN : wheel_Next.f now l = some (if okW now l = true ∧ 0 < l.length then (minAt l, true) else (0, false)) := by unfold wheel_Next.f; rw [if_pos (by omega)]
  rw [pass_k now l q (by omega) 4000 (by omega), moves_k now l q (by omega) 4000 (by omega), hN]
  simp only [Option.bind_some]
  rw [same_k now l now l (by omega) 4000 (by omega), right_k now l (by omega) 4000 (by omega)]
  simp only [Option.bind_some, and_self, decide_true, if_true]
  by_cases hok : okW now l = true
  · rw [if_pos hok]
    have hl := okW_len hok
    have hr := okW_rise hok
    obtain ⟨h0, h1, h2⟩ := okW_all hok
    have hpos : ∀ t ∈ l, 0 < t.f1 ∧ t.f1 ≤ 1125899906842624 := fun t ht => by have := okW_mem hok ht; omega
    have hL := fun e n f next any x xl due => law_l0 q due e n f next any now l x xl (by omega) l.length (4000 - (l.length + 1)) 0 0 (by omega) (by omega)
    simp only [List.drop_zero] at hL
    rw [show 4000 - (l.length + 1) + (l.length + 1) = 4000 by omega] at hL
    rw [show ((0 : Nat) : Int) = 0 from rfl] at hL
    rw [hL]
    have hleast : (if 0 < l.length then (minAt l, true) else (0, false)) = (l.foldl stepL 0, decide (l.foldl stepL 0 > 0)) := by
      by_cases c : 0 < l.length
      · rw [if_pos c, least_eq l (fun t ht => (hpos t ht).1) c]
        obtain ⟨t, ht, e⟩ := minAt_mem l c
        have := hpos t ht
        rw [decide_eq_true (by omega)]
      · have : l = [] := List.eq_nil_of_length_eq_zero (by omega)
        subst this; rfl
    have hleast' : (if okW now l = true ∧ 0 < l.length then (minAt l, true) else (0, false)) = (l.foldl stepL 0, decide (l.foldl stepL 0 > 0)) := by
      rw [← hleast]; simp [hok]
    rw [hleast']
    simp only [if_true, bne_self_eq_false]
    obtain ⟨K, hK⟩ : ∃ K, 4000 - (l.length + 1) = K + 2 := ⟨4000 - (l.length + 1) - 2, by omega⟩
    have hK2 : 3900 ≤ K := by omega
    rw [hK]
    simp only [mainsheetlaw15_WheelPasses.j1]
    rw [if_neg (by simp)]
    have hj2 : ∀ b, b = decide (q < now ∨ q > 1125899906842624) → mainsheetlaw15_WheelPasses.j2 (K + 1) q (passF now l q).2.2.1 (passF now l q).2.2.2 (movesF now l q).1 (movesF now l q).2 b now l (passF now l q).1 (passF now l q).2.1 = some true := by
      intro b hb
      subst hb
      unfold passF movesF
      rw [if_pos hok, if_pos hok]
      simp only [mainsheetlaw15_WheelPasses.j2]
      by_cases c : q < now ∨ q > 1125899906842624
      · rw [decide_eq_true c, if_pos rfl, if_pos c, if_pos c]
        rfl
      · rw [decide_eq_false c, if_neg (by simp), if_neg c, if_neg c, refPass_k now l q hr hl K (by omega)]
        simp only [Option.bind_some, passOk]
        have hfl : (l.filter (fun x => decide (q < x.f1))).length ≤ l.length := List.length_filter_le _ _
        have := law_l1 q (sortT (l.filter (fun x => decide (x.f1 ≤ q)))) 0 ((l.filter (fun x => decide (q < x.f1))).foldl (stepM now q) 0) 0 (sortT (l.filter (fun x => decide (x.f1 ≤ q)))) now l q (l.filter (fun x => decide (q < x.f1))) q (l.filter (fun x => decide (q < x.f1)))
          h0 h1 (by omega) (by omega) (fun t ht => by have := hpos t (List.mem_filter.1 ht).1; omega) (by omega) (l.filter (fun x => decide (q < x.f1))).length (K - ((l.filter (fun x => decide (q < x.f1))).length + 1)) 0 0 (by omega) (by omega) (by omega)
        rw [show K - ((l.filter (fun x => decide (q < x.f1))).length + 1) + ((l.filter (fun x => decide (q < x.f1))).length + 1) = K by omega] at this
        rw [show ((0 : Nat) : Int) = 0 from rfl] at this
        rw [this]
        have hs : (sortT (l.filter (fun x => decide (x.f1 ≤ q)))).length ≤ l.length := by rw [sortT_len]; exact List.length_filter_le _ _
        rw [if_pos rfl, if_pos rfl, same_k q _ q _ (by omega) _ (by omega), sameT_k _ _ (by omega) _ (by omega)]
        simp
    by_cases c : q < now
    · rw [if_pos c]; exact hj2 true (decide_eq_true (.inl c)).symm
    · rw [if_neg c]; exact hj2 _ (by rw [decide_eq_decide]; omega)
  · have hok' : okW now l = false := by simpa using hok
    have hp : passF now l q = (0, [], [], 250) := by unfold passF; rw [if_neg hok]
    have hm : movesF now l q = (0, 250) := by unfold movesF; rw [if_neg hok]
    rw [if_neg hok, hp, hm, hok']
    rfl
end Go.Proofs.Ytolaaplnoahnkaa.C
