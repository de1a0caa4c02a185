import Derived.Test.YtlddekjlmkimnaaJ8
import Derived.Shelf.SlSortCmp.WholeK
import Derived.Shelf.SlGeneric
import Derived.Shelf.SlSortCmp.NoneTotal
section
namespace Go.Proofs.Ytlddekjlmkimnaa.C
open Go.RowKit Go.Sort Go.Shelf Go.Proofs.YtlddekjlmkimnaaW.PrintWords Go.Proofs.YtlddekjlmkimnaaW.PrintLast Go.Proofs.YtlddekjlmkimnaaW.PrintMore
set_option linter.unusedVariables false
set_option linter.unusedSimpArgs false

/-! The sort's layer (slices.SortFunc at Timer): the numbers of the shelf's bodies at this dump. -/
def sortL_ren : Go.Shelf.Ren := ⟨fun | 6 => 78 | 15 => 89 | 14 => 88 | 28 => 103 | 29 => 104 | 20 => 95 | 21 => 96 | 22 => 97 | 23 => 98 | 24 => 99 | 25 => 100 | 26 => 101 | 27 => 102 | 46 => 106 | 47 => 107 | 48 => 108 | 49 => 109 | 50 => 110 | 57 => 112 | n => n, fun | 22 => 22 | 24 => 88 | 25 => 105 | 3 => 3 | 39 => 111 | 0 => 0 | 53 => 137 | 55 => 139 | 4 => 4 | 46 => 131 | 45 => 130 | 50 => 66 | 5 => 5 | 9 => 9 | 66 => 140 | 70 => 144 | 76 => 147 | 77 => 148 | n => n, fun n => n⟩
theorem sortL : Go.Proofs.SlLaysF0.n6 Try.prog sortL_ren := {
  mixed := by kernel_rfl,
  f6 := ⟨Try.f78.name, by decide, Try.func78.trans (congrArg some (by kernel_rfl))⟩,
  f14 := ⟨Try.f88.name, by decide, Try.func88.trans (congrArg some (by kernel_rfl))⟩,
  f15 := Try.func89.trans (congrArg some (by kernel_rfl)),
  f20 := ⟨Try.f95.name, by decide, Try.func95.trans (congrArg some (by kernel_rfl))⟩,
  f21 := ⟨Try.f96.name, by decide, Try.func96.trans (congrArg some (by kernel_rfl))⟩,
  f22 := ⟨Try.f97.name, by decide, Try.func97.trans (congrArg some (by kernel_rfl))⟩,
  f23 := ⟨Try.f98.name, by decide, Try.func98.trans (congrArg some (by kernel_rfl))⟩,
  f24 := ⟨Try.f99.name, by decide, Try.func99.trans (congrArg some (by kernel_rfl))⟩,
  f25 := ⟨Try.f100.name, by decide, Try.func100.trans (congrArg some (by kernel_rfl))⟩,
  f26 := ⟨Try.f101.name, by decide, Try.func101.trans (congrArg some (by kernel_rfl))⟩,
  f27 := ⟨Try.f102.name, by decide, Try.func102.trans (congrArg some (by kernel_rfl))⟩,
  f28 := Try.func103.trans (congrArg some (by kernel_rfl)),
  f29 := Try.func104.trans (congrArg some (by kernel_rfl)),
  f46 := ⟨Try.f106.name, by decide, Try.func106.trans (congrArg some (by kernel_rfl))⟩,
  f47 := Try.func107.trans (congrArg some (by kernel_rfl)),
  f48 := Try.func108.trans (congrArg some (by kernel_rfl)),
  f49 := ⟨Try.f109.name, by decide, Try.func109.trans (congrArg some (by kernel_rfl))⟩,
  f50 := ⟨Try.f110.name, by decide, Try.func110.trans (congrArg some (by kernel_rfl))⟩,
  f57 := ⟨Try.f112.name, by decide, Try.func112.trans (congrArg some (by kernel_rfl))⟩,
  t0 := Try.underlying0,
  a0 := Try.isAgg0,
  z0 := Try.sizeOf0,
  v0 := Try.zeroValue0,
  t3 := Try.underlying3,
  a3 := Try.isAgg3,
  z3 := Try.sizeOf3,
  v3 := Try.zeroValue3,
  t4 := Try.underlying4,
  a4 := Try.isAgg4,
  z4 := Try.sizeOf4,
  v4 := Try.zeroValue4,
  t5 := Try.underlying5,
  a5 := Try.isAgg5,
  z5 := Try.sizeOf5,
  v5 := Try.zeroValue5,
  t9 := Try.underlying9,
  a9 := Try.isAgg9,
  z9 := Try.sizeOf9,
  v9 := Try.zeroValue9,
  t22 := Try.underlying22,
  a22 := Try.isAgg22,
  z22 := Try.sizeOf22,
  v22 := Try.zeroValue22,
  t25 := Try.underlying105,
  a25 := Try.isAgg105,
  z25 := Try.sizeOf105,
  v25 := Try.zeroValue105,
  t39 := Try.underlying111,
  a39 := Try.isAgg111,
  z39 := Try.sizeOf111,
  v39 := Try.zeroValue111,
  t45 := Try.underlying130,
  a45 := Try.isAgg130,
  z45 := Try.sizeOf130,
  v45 := Try.zeroValue130,
  t46 := Try.underlying131,
  a46 := Try.isAgg131,
  z46 := Try.sizeOf131,
  v46 := Try.zeroValue131,
  t50 := Try.underlying66,
  a50 := Try.isAgg66,
  z50 := Try.sizeOf66,
  v50 := Try.zeroValue66,
  t53 := Try.underlying137,
  a53 := Try.isAgg137,
  z53 := Try.sizeOf137,
  v53 := Try.zeroValue137,
  t55 := Try.underlying139,
  a55 := Try.isAgg139,
  z55 := Try.sizeOf139,
  v55 := Try.zeroValue139,
  t66 := Try.underlying140,
  a66 := Try.isAgg140,
  z66 := Try.sizeOf140,
  v66 := Try.zeroValue140,
  t70 := Try.underlying144,
  a70 := Try.isAgg144,
  z70 := Try.sizeOf144,
  v70 := Try.zeroValue144,
  t76 := Try.underlying147,
  a76 := Try.isAgg147,
  z76 := Try.sizeOf147,
  v76 := Try.zeroValue147,
  t77 := Try.underlying148,
  a77 := Try.isAgg148,
  z77 := Try.sizeOf148,
  v77 := Try.zeroValue148 }

end Go.Proofs.Ytlddekjlmkimnaa.C
end
section
namespace Go.Proofs.Ytlddekjlmkimnaa.C
open Go.RowKit Go.Sort Go.Shelf Go.Proofs.YtlddekjlmkimnaaW.PrintWords Go.Proofs.YtlddekjlmkimnaaW.PrintLast Go.Proofs.YtlddekjlmkimnaaW.PrintMore
set_option linter.unusedVariables false
set_option linter.unusedSimpArgs false

section
variable {α : Type} [Inhabited α] {enc : α → List Value} {k : Nat}

theorem flat_get (hk : ∀ x, (enc x).length = k) (l : List α) (inner : List Value) (h : Reps (fun x cs => cs = enc x) k l inner) (t : Nat) (ht : t < l.length * k) :
    inner[t]? = some (flatK enc k l.toArray)[t]! := by
  have k0 : 0 < k := by rcases Nat.eq_zero_or_pos k with h | h; · subst h; simp at ht
                        · exact h
  have hj : t / k < l.length := Nat.div_lt_of_lt_mul (by rw [Nat.mul_comm]; exact ht)
  have h2 := h.2 (t / k) l[t / k] (List.getElem?_eq_getElem hj)
  have hmod := Nat.mod_lt t k0
  have h3 : (enc l[t / k])[t % k]? = inner[t]? := by
    rw [← h2, List.getElem?_take, if_pos hmod, List.getElem?_drop, Nat.mul_comm, Nat.div_add_mod]
  rw [get_flatK _ _ _ _ (by simpa using ht), ← h3]
  have h4 : (l.toArray)[t / k]! = l[t / k] := by simp [hj]
  rw [h4, List.getElem?_eq_getElem (by rw [hk]; exact hmod)]
  simp [hk, hmod]

theorem flat_reps (hk : ∀ x, (enc x).length = k) (l : List α) (inner : List Value) (hl : inner.length = l.length * k) (h : ∀ t, t < l.length * k → inner[t]? = some (flatK enc k l.toArray)[t]!) :
    Reps (fun x cs => cs = enc x) k l inner := by
  refine ⟨hl, fun j p hj => ?_⟩
  obtain ⟨hj', e⟩ := List.getElem?_eq_some_iff.1 hj
  have hjk : j * k + k ≤ l.length * k := by rw [← Nat.succ_mul]; exact Nat.mul_le_mul_right _ hj'
  apply List.ext_getElem?
  intro i
  by_cases hi : i < k
  · rw [List.getElem?_take, if_pos hi, List.getElem?_drop, h _ (by omega), get_flatK _ _ _ _ (by simp; omega)]
    have h1 : (j * k + i) / k = j := by rw [Nat.mul_comm, Nat.mul_add_div (by omega), Nat.div_eq_of_lt hi]; rfl
    have h2 : (j * k + i) % k = i := by rw [Nat.mul_comm, Nat.mul_add_mod, Nat.mod_eq_of_lt hi]
    have h4 : (l.toArray)[j]! = p := by simp [hj']; exact e
    rw [h1, h2, h4, List.getElem?_eq_getElem (by rw [hk]; exact hi)]
    simp [hk, hi]
  · have : (enc p).length ≤ i := by rw [hk]; omega
    rw [List.getElem?_eq_none this, List.getElem?_eq_none]
    simp; omega

theorem grown_sortWorld (w : World) (g k n : Nat) (enc : α → List Value) (d : Array α) (os : Array Obj) (hg : g < w.heap.size) : w.grownBy (sortWorldK enc k w g 0 n d os) (some g) := by
  refine ⟨rfl, rfl, rfl, by simp [sortWorldK, grow, putRowK, putRow, mapBlock, Go.Sort.ahead], fun i hi hne => ?_⟩
  have hig : i ≠ g := fun e => hne (by rw [e])
  unfold sortWorldK
  rw [heap_grow_old _ _ (by simp [putRowK, putRow, mapBlock, Go.Sort.ahead]; exact hi)]
  simp only [putRowK, putRow, mapBlock, Go.Sort.ahead, Array.getElem?_modify]
  rw [if_neg (fun e => hig e.symm)]

theorem block_sortWorld (w : World) (g k n : Nat) (enc : α → List Value) (d : Array α) (os : Array Obj) (cur : Array Value) (e : TypeId) (hg : w.heap[g]? = some (.cells cur e (0, 0))) :
    (sortWorldK enc k w g 0 n d os).heap[g]? = some (.cells (putCells id 0 (flatK enc k d) cur) e (0, 0)) := by
  have hlt : g < w.heap.size := (Array.getElem?_eq_some_iff.1 hg).1
  unfold sortWorldK
  rw [heap_grow_old _ _ (by simp [putRowK, putRow, mapBlock, Go.Sort.ahead]; exact hlt)]
  simp only [putRowK, putRow, mapBlock, Go.Sort.ahead, Array.getElem?_modify]
  simp [hg, onCells]

/-- slices.SortFunc over a row of the call's own, its elements' cells being plain: a permutation, in order. -/
theorem sortRow {P : Program} {ρ : Ren} (L : Go.Proofs.SlLaysF0.n6 P ρ) (d : Kd α) (e : TypeId) (hdk : d.sz = k) (hk : ∀ x, (enc x).length = k) (h1 : ∀ x, ∀ v ∈ enc x, v.oneCell' = true)
    (hM : ∀ w base ok x, d.M w base ok x (enc x)) (hMi : ∀ w base ok x cs, d.M w base ok x cs → cs = enc x)
    (aE : ∀ w, (isAgg (ρ.t 24)).run P w = .ok true w) (zE : ∀ w, (Go.sizeOf (ρ.t 24)).run P w = .ok k w)
    (cf : α → α → Int) (hO : SWO (ltOf cf)) (g : Nat) (eg : ∀ args w, (callFunc g args).run P w = .ok (.enter g args) w)
    (hcmp : ∀ (x y : α) (W : World), Calls P g #[.agg (enc x).toArray, .agg (enc y).toArray] W fun e w' => e = .returned (.int .i64 (cf x y)) ∧ ∃ q os, w' = grow (W.drewN q) os)
    (w : World) (base : Nat) (ok : Nat → Prop) (v : Value) (l : List α) (hR : d.R e w base ok v l) (hlen : l.length < 4611686018427387904) :
    Calls P (ρ.f 6) #[v, .func (.func g) #[] #[]] w fun en w' => en = .returned (.tuple #[]) ∧ ∃ l', l'.Perm l ∧ l'.Pairwise (fun a b => ltOf cf b a = false) ∧ d.R e w' base ok v l' ∧ w.grownBy w' v.ownBlock := by
  obtain ⟨hok, inner, hown, hreps⟩ := hR
  rw [hdk] at hown hreps
  rcases hown with ⟨hil, ⟨rfl, h0⟩ | ⟨b, cap, cur, rfl, hb, hheap, hcap, hcm, hcur, htake⟩⟩
  · obtain rfl : l = [] := List.eq_nil_of_length_eq_zero h0
    refine (Go.Proofs.AnyF.slices_SortFunc_none L none 0 _ w).mono ?_
    rintro en w' ⟨rfl, rfl⟩
    exact ⟨rfl, [], .refl _, List.Pairwise.nil, Kd.R_nil _ _ _ _ _, ⟨rfl, rfl, rfl, Nat.le_refl _, fun _ _ _ => rfl⟩⟩
  · have hbl : b < w.heap.size := (Array.getElem?_eq_some_iff.1 hheap).1
    have hreps' : Reps (fun x cs => cs = enc x) k l inner := hreps.imp_ (fun p c h => hMi _ _ _ _ _ h)
    have hnk : l.length * k ≤ cap * k := Nat.mul_le_mul_right _ hcap
    have hcell : ∀ t, t < l.length * k → cur[t]? = some (flatK enc k l.toArray)[t]! := fun t ht => by
      have := flat_get hk l inner hreps' t ht
      rw [← this, ← htake, List.getElem?_take, if_pos ht, Array.getElem?_toList]
    have hH : HoldsK enc k w b 0 l.toArray := fun j hj => by
      have hj' : j < l.length * k := by simpa using hj
      refine ⟨?_, ?_⟩
      · simp only [World.cell?, hheap, Nat.zero_add]
        simpa using hcell j hj'
      · simp [World.frozen?, hheap]
    refine (Go.Proofs.AnyQ.slices_SortFunc L k aE zE enc hk h1 cf hO g #[] b 0 cap l.toArray w eg (fun m os dk hdk x y => by simpa using hcmp x y _) hH hbl (by simpa using hlen)).mono ?_
    rintro en w' ⟨rfl, d', n, os, hperm, hsorted, rfl⟩
    have hsz : d'.size = l.length := by simpa using hperm.1
    refine ⟨rfl, d'.toList, ?_, ?_, ⟨hok, ((putCells id 0 (flatK enc k d') cur).toList.take (l.length * k)), ?_, ?_⟩, grown_sortWorld w b k n enc d' os hbl⟩
    · have := hperm.2.2
      have ht : List.take l.length d'.toList = d'.toList := List.take_of_length_le (by simp [hsz])
      simpa [hsz, ht] using this
    · rw [List.pairwise_iff_getElem]
      intro i j hi hj hij
      have := hsorted i j (Nat.zero_le _) hij (by simpa [hsz] using hj)
      simp at hi hj
      rwa [getElem!_pos d' i (by omega), getElem!_pos d' j (by omega)] at this
    · rw [hdk]
      have hlk : l.length * k ≤ cur.size := by rw [hcur]; exact hnk
      have hl' : d'.toList.length = l.length := by simpa using hsz
      rw [hl']
      refine ⟨by rw [List.length_take]; simp [putCells]; omega, .inr ⟨b, cap, putCells id 0 (flatK enc k d') cur, rfl, hb, block_sortWorld w b k n enc d' os cur e hheap, hcap, hcm, by simp [putCells, hcur], rfl⟩⟩
    · rw [hdk]
      have hl' : d'.toList.length = l.length := by simpa using hsz
      have hlk : l.length * k ≤ cur.size := by rw [hcur]; exact hnk
      refine (flat_reps hk d'.toList _ (by rw [hl', List.length_take]; simp [putCells]; omega) fun t ht => ?_).imp_ (fun p c h => by rw [h]; exact hM _ _ _ _)
      have ht' : t < l.length * k := by rwa [hl'] at ht
      have htc : t < cur.size := by rw [hcur]; omega
      rw [List.getElem?_take, if_pos ht', Array.getElem?_toList]
      simp [putCells, htc, hsz, ht']
end
end Go.Proofs.Ytlddekjlmkimnaa.C
end
section
namespace Go.Proofs.Ytlddekjlmkimnaa.C
open Go.RowKit Go.Sort Go.Shelf Go.Proofs.YtlddekjlmkimnaaW.PrintWords Go.Proofs.YtlddekjlmkimnaaW.PrintLast Go.Proofs.YtlddekjlmkimnaaW.PrintMore
set_option linter.unusedVariables false
set_option linter.unusedSimpArgs false

def encT (t : S88) : List Value := [.int .i64 t.f0, .int .i64 t.f1]
instance : Inhabited S88 := ⟨z88⟩
theorem ordF_lt (a b : S88) : ltOf ordF a b = decide (a.f1 < b.f1 ∨ a.f1 = b.f1 ∧ a.f0 < b.f0) := by
  unfold ltOf ordF or2 cmp3
  by_cases h1 : a.f1 < b.f1
  · simp [h1]
  · by_cases h2 : b.f1 < a.f1
    · simp [h1, h2]; omega
    · have h3 : a.f1 = b.f1 := by omega
      by_cases h4 : a.f0 < b.f0
      · simp [h3, h4]
      · by_cases h5 : b.f0 < a.f0 <;> simp [h3, h4, h5]
theorem swoT : SWO (ltOf ordF) where
  irrefl x := by rw [ordF_lt]; simp
  trans x y z h1 h2 := by rw [ordF_lt] at *; simp at *; omega
  ntrans x y z h1 h2 := by rw [ordF_lt] at *; simp at *; omega

/-- Timers in the order in which they fire. -/
def leT (a b : S88) : Bool := decide (a.f1 < b.f1 ∨ a.f1 = b.f1 ∧ a.f0 ≤ b.f0)
def sortT (l : List S88) : List S88 := l.mergeSort leT
theorem sortT_unique (l l' : List S88) (hp : l'.Perm l) (hs : l'.Pairwise (fun a b => ltOf ordF b a = false)) : l' = sortT l := by
  have tr : ∀ a b c : S88, leT a b = true → leT b c = true → leT a c = true := fun a b c h1 h2 => by simp [leT] at *; omega
  have tt : ∀ a b : S88, (leT a b || leT b a) = true := fun a b => by simp [leT]; omega
  have h1 : l'.Pairwise (fun a b => leT a b = true) := hs.imp (fun {a b} h => by rw [ordF_lt] at h; simp [leT] at *; omega)
  have h2 : (sortT l).Pairwise (fun a b => leT a b = true) := List.pairwise_mergeSort tr tt l
  have h3 : l'.Perm (sortT l) := hp.trans (List.mergeSort_perm l leT).symm
  exact h3.eq_of_pairwise (fun a b _ _ h h' => by
    simp [leT] at h h'
    have e1 : a.f1 = b.f1 := by omega
    have e0 : a.f0 = b.f0 := by omega
    cases a; cases b; simp_all) h1 h2

def wheel_sorted.f (l0 : List S88) : Option (List S88) := if l0.length ≤ 1000000 then some (sortT l0) else none
set_option maxRecDepth 100000 in
theorem wheel_sorted.calls (P0_ : Nat → Prop) (u9000_ : Value) (l0 : List (S88)) (r : List (S88)) (w0 w : World) (hB : Below w0.heap.size w0 w) (ho0 : Kd.R k88 88 w w0.heap.size P0_ u9000_ l0) (h : wheel_sorted.f l0 = some r) :
    Calls Try.prog 63 #[u9000_] w fun e w' => ∃ v0_ : Value, e = .returned (v0_) ∧ Kd.R k88 88 w' w0.heap.size (fun k_ => (P0_ k_ ∨ w.heap.size ≤ k_)) v0_ r ∧ Below w0.heap.size w0 w' ∧ Kept w w' (fun k_ => P0_ k_) := by
  unfold wheel_sorted.f at h
  by_cases hn : l0.length ≤ 1000000
  · rw [if_pos hn] at h
    obtain rfl : sortT l0 = r := by simpa using h
    clear h
    have hs := sortRow (enc := encT) (k := 2) sortL k88 88 rfl (fun _ => rfl) (fun x u hu => by simp [encT] at hu; rcases hu with rfl | rfl <;> rfl)
      (fun w base ok x => k88_mkM w base ok x) (fun w base ok x cs h => k88_openM h) (fun _ => by kernel_rfl) (fun _ => by kernel_rfl) ordF swoT 68 (enters_of Try.func68 (by kernel_rfl) rfl)
      (fun x y W => order_any x y W) w w0.heap.size P0_ u9000_ l0 ho0 (by omega)
    have hlt : ∀ g, u9000_.ownBlock = some g → w0.heap.size ≤ g ∧ g < w.heap.size := fun g hg => by
      obtain ⟨inner, ho⟩ := Kd.R_own ho0
      exact World.ownsRow.lt ho g hg
    have hP := ho0.1
    have HS := Lib.hid hs
    clear hs ho0
    go_enter Try.func63, Try.ntmps63
    go_wp2_with fail
    refine (HS.out).mono ?_
    rintro e w2 ⟨rfl, l', hperm, hpw, hR, hg⟩
    obtain rfl := sortT_unique l0 l' hperm hpw
    go_wp2
    go_ret
    exact ⟨_, rfl, Kd.R_mono hR (fun g hg => .inl hg), hB.grown hg (hB.size) (fun g hg => (hlt g hg).1), ⟨hg.size, fun i hi hn => hg.block i hi (fun e => hn (hP i e.symm))⟩⟩
  · rw [if_neg hn] at h
    cases h
end Go.Proofs.Ytlddekjlmkimnaa.C
end
section
namespace Go.Proofs.Ytlddekjlmkimnaa.C
open Go.RowKit Go.Sort Go.Proofs.YtlddekjlmkimnaaW.PrintWords Go.Proofs.YtlddekjlmkimnaaW.PrintLast Go.Proofs.YtlddekjlmkimnaaW.PrintMore
set_option linter.unusedVariables false
set_option linter.unusedSimpArgs false

end Go.Proofs.Ytlddekjlmkimnaa.C
end
