import Derived.Test.YtolaaplnoahnkaaHsort
import Derived.Shelf.SlSortCmp.NoneTotal
namespace Go.Proofs.Ytolaaplnoahnkaa.C
open Go.RowKit Go.Sort Go.Shelf Go.Proofs.YtolaaplnoahnkaaW.PrintWords Go.Proofs.YtolaaplnoahnkaaW.PrintLast Go.Proofs.YtolaaplnoahnkaaW.PrintMore
set_option linter.unusedVariables false
set_option linter.unusedSimpArgs false

section
variable {α : Type} [Inhabited α] {enc : α → List Value} {k : Nat}

theorem flat_get (hk : ∀ x, (enc x).length = k) (l : List α) (inner : List Value) (h : Reps (fun x cs => cs = enc x) k l inner) (t : Nat) (ht : t < l.length * k) :
    inner[t]? = some (flatK enc k l.toArray)[t]! := by
  have k0 : 0 < k := by rcases Nat.eq_zero_or_pos k with h | h; · subst h; simp at ht
                        · exact h
  have hj : t / k < l.length := Nat.div_lt_of_lt_mul (by rw [Nat.mul_comm]; exact ht)
  have h2 := h.2 (t / k) l[t / k] (List.getElem?_eq_getElem hj)
  have hmod := Nat.mod_lt t k0
  have h3 : (enc l[t / k])[t % k]? = inner[t]? := by
    rw [← h2, List.getElem?_take, if_pos hmod, List.getElem?_drop, Nat.mul_comm, Nat.div_add_mod]
  rw [get_flatK _ _ _ _ (by simpa using ht), ← h3]
  have h4 : (l.toArray)[t / k]! = l[t / k] := by simp [hj]
  rw [h4, List.getElem?_eq_getElem (by rw [hk]; exact hmod)]
  simp [hk, hmod]

theorem flat_reps (hk : ∀ x, (enc x).length = k) (l : List α) (inner : List Value) (hl : inner.length = l.length * k) (h : ∀ t, t < l.length * k → inner[t]? = some (flatK enc k l.toArray)[t]!) :
    Reps (fun x cs => cs = enc x) k l inner := by
  refine ⟨hl, fun j p hj => ?_⟩
  obtain ⟨hj', e⟩ := List.getElem?_eq_some_iff.1 hj
  have hjk : j * k + k ≤ l.length * k := by rw [← Nat.succ_mul]; exact Nat.mul_le_mul_right _ hj'
  apply List.ext_getElem?
  intro i
  by_cases hi : i < k
  · rw [List.getElem?_take, if_pos hi, List.getElem?_drop, h _ (by omega), get_flatK _ _ _ _ (by simp; omega)]
    have h1 : (j * k + i) / k = j := by rw [Nat.mul_comm, Nat.mul_add_div (by omega), Nat.div_eq_of_lt hi]; rfl
    have h2 : (j * k + i) % k = i := by rw [Nat.mul_comm, Nat.mul_add_mod, Nat.mod_eq_of_lt hi]
    have h4 : (l.toArray)[j]! = p := by simp [hj']; exact e
    rw [h1, h2, h4, List.getElem?_eq_getElem (by rw [hk]; exact hi)]
    simp [hk, hi]
  · have : (enc p).length ≤ i := by rw [hk]; omega
    rw [List.getElem?_eq_none this, List.getElem?_eq_none]
    simp; omega

theorem grown_sortWorld (w : World) (g k n : Nat) (enc : α → List Value) (d : Array α) (os : Array Obj) (hg : g < w.heap.size) : w.grownBy (sortWorldK enc k w g 0 n d os) (some g) := by
  refine ⟨rfl, rfl, rfl, by simp [sortWorldK, grow, putRowK, putRow, mapBlock, Go.Sort.ahead], fun i hi hne => ?_⟩
  have hig : i ≠ g := fun e => hne (by rw [e])
  unfold sortWorldK
  rw [heap_grow_old _ _ (by simp [putRowK, putRow, mapBlock, Go.Sort.ahead]; exact hi)]
  simp only [putRowK, putRow, mapBlock, Go.Sort.ahead, Array.getElem?_modify]
  rw [if_neg (fun e => hig e.symm)]

theorem block_sortWorld (w : World) (g k n : Nat) (enc : α → List Value) (d : Array α) (os : Array Obj) (cur : Array Value) (e : TypeId) (hg : w.heap[g]? = some (.cells cur e (0, 0))) :
    (sortWorldK enc k w g 0 n d os).heap[g]? = some (.cells (putCells id 0 (flatK enc k d) cur) e (0, 0)) := by
  have hlt : g < w.heap.size := (Array.getElem?_eq_some_iff.1 hg).1
  unfold sortWorldK
  rw [heap_grow_old _ _ (by simp [putRowK, putRow, mapBlock, Go.Sort.ahead]; exact hlt)]
  simp only [putRowK, putRow, mapBlock, Go.Sort.ahead, Array.getElem?_modify]
  simp [hg, onCells]

/-- slices.SortFunc over a row of the call's own, its elements' cells being plain: a permutation, in order. -/
theorem sortRow {P : Program} {ρ : Ren} (L : Go.Proofs.SlLaysF0.n6 P ρ) (d : Kd α) (e : TypeId) (hdk : d.sz = k) (hk : ∀ x, (enc x).length = k) (h1 : ∀ x, ∀ v ∈ enc x, v.oneCell' = true)
    (hM : ∀ w base ok x, d.M w base ok x (enc x)) (hMi : ∀ w base ok x cs, d.M w base ok x cs → cs = enc x)
    (aE : ∀ w, (isAgg (ρ.t 24)).run P w = .ok true w) (zE : ∀ w, (Go.sizeOf (ρ.t 24)).run P w = .ok k w)
    (cf : α → α → Int) (hO : SWO (ltOf cf)) (g : Nat) (eg : ∀ args w, (callFunc g args).run P w = .ok (.enter g args) w)
    (hcmp : ∀ (x y : α) (W : World), Calls P g #[.agg (enc x).toArray, .agg (enc y).toArray] W fun e w' => e = .returned (.int .i64 (cf x y)) ∧ ∃ q os, w' = grow (W.drewN q) os)
    (w : World) (base : Nat) (ok : Nat → Prop) (v : Value) (l : List α) (hR : d.R e w base ok v l) (hlen : l.length < 4611686018427387904) :
    Calls P (ρ.f 6) #[v, .func (.func g) #[] #[]] w fun en w' => en = .returned (.tuple #[]) ∧ ∃ l', l'.Perm l ∧ l'.Pairwise (fun a b => ltOf cf b a = false) ∧ d.R e w' base ok v l' ∧ w.grownBy w' v.ownBlock := by
  obtain ⟨hok, inner, hown, hreps⟩ := hR
  rw [hdk] at hown hreps
  rcases hown with ⟨hil, ⟨rfl, h0⟩ | ⟨b, cap, cur, rfl, hb, hheap, hcap, hcm, hcur, htake⟩⟩
  · obtain rfl : l = [] := List.eq_nil_of_length_eq_zero h0
    refine (Go.Proofs.AnyF.slices_SortFunc_none L none 0 _ w).mono ?_
    rintro en w' ⟨rfl, rfl⟩
    exact ⟨rfl, [], .refl _, List.Pairwise.nil, Kd.R_nil _ _ _ _ _, ⟨rfl, rfl, rfl, Nat.le_refl _, fun _ _ _ => rfl⟩⟩
  · have hbl : b < w.heap.size := (Array.getElem?_eq_some_iff.1 hheap).1
    have hreps' : Reps (fun x cs => cs = enc x) k l inner := hreps.imp_ (fun p c h => hMi _ _ _ _ _ h)
    have hnk : l.length * k ≤ cap * k := Nat.mul_le_mul_right _ hcap
    have hcell : ∀ t, t < l.length * k → cur[t]? = some (flatK enc k l.toArray)[t]! := fun t ht => by
      have := flat_get hk l inner hreps' t ht
      rw [← this, ← htake, List.getElem?_take, if_pos ht, Array.getElem?_toList]
    have hH : HoldsK enc k w b 0 l.toArray := fun j hj => by
      have hj' : j < l.length * k := by simpa using hj
      refine ⟨?_, ?_⟩
      · simp only [World.cell?, hheap, Nat.zero_add]
        simpa using hcell j hj'
      · simp [World.frozen?, hheap]
    refine (Go.Proofs.AnyQ.slices_SortFunc L k aE zE enc hk h1 cf hO g #[] b 0 cap l.toArray w eg (fun m os dk hdk x y => by simpa using hcmp x y _) hH hbl (by simpa using hlen)).mono ?_
    rintro en w' ⟨rfl, d', n, os, hperm, hsorted, rfl⟩
    have hsz : d'.size = l.length := by simpa using hperm.1
    refine ⟨rfl, d'.toList, ?_, ?_, ⟨hok, ((putCells id 0 (flatK enc k d') cur).toList.take (l.length * k)), ?_, ?_⟩, grown_sortWorld w b k n enc d' os hbl⟩
    · have := hperm.2.2
      have ht : List.take l.length d'.toList = d'.toList := List.take_of_length_le (by simp [hsz])
      simpa [hsz, ht] using this
    · rw [List.pairwise_iff_getElem]
      intro i j hi hj hij
      have := hsorted i j (Nat.zero_le _) hij (by simpa [hsz] using hj)
      simp at hi hj
      rwa [getElem!_pos d' i (by omega), getElem!_pos d' j (by omega)] at this
    · rw [hdk]
      have hlk : l.length * k ≤ cur.size := by rw [hcur]; exact hnk
      have hl' : d'.toList.length = l.length := by simpa using hsz
      rw [hl']
      refine ⟨by rw [List.length_take]; simp [putCells]; omega, .inr ⟨b, cap, putCells id 0 (flatK enc k d') cur, rfl, hb, block_sortWorld w b k n enc d' os cur e hheap, hcap, hcm, by simp [putCells, hcur], rfl⟩⟩
    · rw [hdk]
      have hl' : d'.toList.length = l.length := by simpa using hsz
      have hlk : l.length * k ≤ cur.size := by rw [hcur]; exact hnk
      refine (flat_reps hk d'.toList _ (by rw [hl', List.length_take]; simp [putCells]; omega) fun t ht => ?_).imp_ (fun p c h => by rw [h]; exact hM _ _ _ _)
      have ht' : t < l.length * k := by rwa [hl'] at ht
      have htc : t < cur.size := by rw [hcur]; omega
      rw [List.getElem?_take, if_pos ht', Array.getElem?_toList]
      simp [putCells, htc, hsz, ht']
end
end Go.Proofs.Ytolaaplnoahnkaa.C
