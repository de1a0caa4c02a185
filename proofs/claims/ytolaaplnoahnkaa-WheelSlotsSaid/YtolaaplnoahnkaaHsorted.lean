import Derived.Test.YtolaaplnoahnkaaHbridge
namespace Go.Proofs.Ytolaaplnoahnkaa.C
open Go.RowKit Go.Sort Go.Shelf Go.Proofs.YtolaaplnoahnkaaW.PrintWords Go.Proofs.YtolaaplnoahnkaaW.PrintLast Go.Proofs.YtolaaplnoahnkaaW.PrintMore
set_option linter.unusedVariables false
set_option linter.unusedSimpArgs false

def encT (t : S33) : List Value := [.int .i64 t.f0, .int .i64 t.f1]
instance : Inhabited S33 := ⟨z33⟩
theorem ordF_lt (a b : S33) : ltOf ordF a b = decide (a.f1 < b.f1 ∨ a.f1 = b.f1 ∧ a.f0 < b.f0) := by
  unfold ltOf ordF or2 cmp3
  by_cases h1 : a.f1 < b.f1
  · simp [h1]
  · by_cases h2 : b.f1 < a.f1
    · simp [h1, h2]; omega
    · have h3 : a.f1 = b.f1 := by omega
      by_cases h4 : a.f0 < b.f0
      · simp [h3, h4]
      · by_cases h5 : b.f0 < a.f0 <;> simp [h3, h4, h5]
theorem swoT : SWO (ltOf ordF) where
  irrefl x := by rw [ordF_lt]; simp
  trans x y z h1 h2 := by rw [ordF_lt] at *; simp at *; omega
  ntrans x y z h1 h2 := by rw [ordF_lt] at *; simp at *; omega

/-- Timers in the order in which they fire. -/
def leT (a b : S33) : Bool := decide (a.f1 < b.f1 ∨ a.f1 = b.f1 ∧ a.f0 ≤ b.f0)
def sortT (l : List S33) : List S33 := l.mergeSort leT
theorem sortT_unique (l l' : List S33) (hp : l'.Perm l) (hs : l'.Pairwise (fun a b => ltOf ordF b a = false)) : l' = sortT l := by
  have tr : ∀ a b c : S33, leT a b = true → leT b c = true → leT a c = true := fun a b c h1 h2 => by simp [leT] at *; omega
  have tt : ∀ a b : S33, (leT a b || leT b a) = true := fun a b => by simp [leT]; omega
  have h1 : l'.Pairwise (fun a b => leT a b = true) := hs.imp (fun {a b} h => by rw [ordF_lt] at h; simp [leT] at *; omega)
  have h2 : (sortT l).Pairwise (fun a b => leT a b = true) := List.pairwise_mergeSort tr tt l
  have h3 : l'.Perm (sortT l) := hp.trans (List.mergeSort_perm l leT).symm
  exact h3.eq_of_pairwise (fun a b _ _ h h' => by
    simp [leT] at h h'
    have e1 : a.f1 = b.f1 := by omega
    have e0 : a.f0 = b.f0 := by omega
    cases a; cases b; simp_all) h1 h2

def wheel_sorted.f (l0 : List S33) : Option (List S33) := if l0.length ≤ 1000000 then some (sortT l0) else none
set_option maxRecDepth 100000 in
theorem wheel_sorted.calls (P0_ : Nat → Prop) (u9000_ : Value) (l0 : List (S33)) (r : List (S33)) (w0 w : World) (hB : Below w0.heap.size w0 w) (ho0 : Kd.R k33 33 w w0.heap.size P0_ u9000_ l0) (h : wheel_sorted.f l0 = some r) :
    Calls Try.prog 31 #[u9000_] w fun e w' => ∃ v0_ : Value, e = .returned (v0_) ∧ Kd.R k33 33 w' w0.heap.size (fun k_ => (P0_ k_ ∨ w.heap.size ≤ k_)) v0_ r ∧ Below w0.heap.size w0 w' ∧ Kept w w' (fun k_ => P0_ k_) := by
  unfold wheel_sorted.f at h
  by_cases hn : l0.length ≤ 1000000
  · rw [if_pos hn] at h
    obtain rfl : sortT l0 = r := by simpa using h
    clear h
    have hs := sortRow (enc := encT) (k := 2) sortL k33 33 rfl (fun _ => rfl) (fun x u hu => by simp [encT] at hu; rcases hu with rfl | rfl <;> rfl)
      (fun w base ok x => k33_mkM w base ok x) (fun w base ok x cs h => k33_openM h) (fun _ => by kernel_rfl) (fun _ => by kernel_rfl) ordF swoT 28 (enters_of Try.func28 (by kernel_rfl) rfl)
      (fun x y W => order_any x y W) w w0.heap.size P0_ u9000_ l0 ho0 (by omega)
    have hlt : ∀ g, u9000_.ownBlock = some g → w0.heap.size ≤ g ∧ g < w.heap.size := fun g hg => by
      obtain ⟨inner, ho⟩ := Kd.R_own ho0
      exact World.ownsRow.lt ho g hg
    have hP := ho0.1
    have HS := Lib.hid hs
    clear hs ho0
    go_enter Try.func31, Try.ntmps31
    go_wp2_with fail
    refine (HS.out).mono ?_
    rintro e w2 ⟨rfl, l', hperm, hpw, hR, hg⟩
    obtain rfl := sortT_unique l0 l' hperm hpw
    go_wp2
    go_ret
    exact ⟨_, rfl, Kd.R_mono hR (fun g hg => .inl hg), hB.grown hg (hB.size) (fun g hg => (hlt g hg).1), ⟨hg.size, fun i hi hn => hg.block i hi (fun e => hn (hP i e.symm))⟩⟩
  · rw [if_neg hn] at h
    cases h
end Go.Proofs.Ytolaaplnoahnkaa.C
