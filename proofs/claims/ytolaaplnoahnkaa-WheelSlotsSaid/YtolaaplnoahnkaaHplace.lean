import Derived.Test.YtolaaplnoahnkaaHfind
import Derived.RangeFuncBox
import Derived.RangeFuncLeaves
import Derived.Shelf.Abstract
import Derived.OwnWalkIn
import Derived.TacticsInMore
import Derived.LoopNIn
import Derived.LoopIn
namespace Go.Proofs.Ytolaaplnoahnkaa.C
open Go.RowKit Go.Shelf Go.Proofs.YtolaaplnoahnkaaW.PrintWords Go.Proofs.YtolaaplnoahnkaaW.PrintLast Go.Proofs.YtolaaplnoahnkaaW.PrintMore
set_option linter.unusedVariables false
set_option linter.unusedSimpArgs false
attribute [local go_sem] Oper.semAt_some

/-- A time's digit. -/
def dg (t : Int) (level : Nat) : Int := (t / 2 ^ (6 * level)).tmod 64
/-- The levels that have come when k rounds are over: 8, 7, .. -/
def lev (j : Nat) : Fin 9 := ⟨8 - j, by omega⟩
def downTo (k : Nat) : List (Fin 9) := (List.range k).map lev
theorem downTo_succ (k : Nat) : downTo (k + 1) = downTo k ++ [lev k] := by simp [downTo, List.range_succ]
theorem downTo_length (k : Nat) : (downTo k).length = k := by simp [downTo]

set_option maxRecDepth 100000 in
set_option maxHeartbeats 1000000 in
theorem digits1_in (F : Fence) (n : Nat) (h56 : F.fn 56) (hro : F.round = none) (hn : 1 ≤ n) (l Bs n₀ : Nat) (t : Int) (ht : 0 ≤ t) (ht2 : t ≤ 9223372036854775807) (hb : Bs < n₀) (J Jx : List (Fin 9) → World → Prop)
    (hY : ∀ (pre : List (Fin 9)) (x : Fin 9) W, J pre W → pre.length < 9 → YieldAt F (n - 1) Try.prog l #[.int .i64 ((x.val : Nat) : Int), .int .i64 ((t / 2 ^ (6 * x.val)).tmod 64)] W fun e W' =>
      (e = .returned (.bool true) ∧ J (pre ++ [x]) W' ∧ Below n₀ W W') ∨ (e = .returned (.bool false) ∧ Jx (pre ++ [x]) W'))
    (W : World) (hBs : W.cell? ⟨Bs, 0, none⟩ = some (.int .i64 t)) (h0 : J [] W) :
    CallsIn F n Try.prog 56 #[.func (.yield l) #[] #[], .pointer (some ⟨Bs, 0, none⟩)] W fun e W' => (∃ v, e = .returned v) ∧
      ((∃ ys, ys = downTo 9 ∧ J ys W') ∨ (∃ pre, (∃ k, k ≤ 9 ∧ pre = downTo k) ∧ Jx pre W')) := by
  refine callsIn_of_wp Try.func56 rfl h56 ?_ hro
  simp only [Try.ntmps56, List.size_toArray, List.length_cons, List.length_nil, Nat.reduceAdd, Nat.reduceSub, Array.replicate_succ, Array.replicate_zero, List.push_toArray, List.append_toArray, List.nil_append, List.cons_append]
  gi_wp2
  gi_loopw [3] (fun i wr => ∃ k : Nat, k ≤ 9 ∧ i = .int .i64 (8 - (k : Int)) ∧ J (downTo k) wr ∧ Below n₀ W wr) (fun i _ => (intOf i + 1).toNat)
  case atStart => exact ⟨0, Nat.zero_le _, rfl, h0, Below.refl _ _⟩
  case round =>
    obtain ⟨k, hk, rfl, hJs, hnx⟩ := hrel
    have hcx : wr.cell? ⟨Bs, 0, none⟩ = some (.int .i64 t) := (hnx.cell (p := ⟨Bs, 0, none⟩) hb).trans hBs
    by_cases hlt : k < 9
    · obtain ⟨fn, tmps, assign, body, hy, hR⟩ := hY _ (lev k) wr hJs (by rw [downTo_length]; exact hlt)
      have hlv : (lev k).val = 8 - k := rfl
      rw [hlv] at hy
      obtain ⟨m, hm⟩ : ∃ m : Nat, 8 - k = m := ⟨_, rfl⟩
      have hm' : 8 - (k : Int) = m := by omega
      have hm2 : m ≤ 8 := by omega
      rw [hm] at hy
      rw [hm']
      have HM := Lib.hid hm
      have HM' := Lib.hid hm'
      clear hm hm' hlv
      gi_wp2
      refine hR.mono ?_
      rintro e W3 (⟨rfl, hJ3, hk3⟩ | ⟨rfl, hJx3⟩)
      · gi_wp2
        go_roundw
        case rel => exact ⟨k + 1, by omega, by have := HM'.out; congr 1; push_cast; omega, by rw [downTo_succ]; exact hJ3, hnx.trans hk3⟩
        case measure => simp [intOf]
      · gi_wp2
        refine bodyPost_ret (results_none rfl _ _ _) rfl ?_
        exact ⟨⟨_, rfl⟩, .inr ⟨_, ⟨k + 1, by omega, by rw [downTo_succ]⟩, hJx3⟩⟩
    · obtain rfl : k = 9 := by omega
      gi_wp2
      go_end0
      exact ⟨⟨_, rfl⟩, .inl ⟨_, rfl, hJs⟩⟩

theorem digits_stops (F : Fence) (n : Nat) (h56 : F.fn 56) (hro : F.round = none) (hn : 1 ≤ n) (Bs n₀ : Nat) (t : Int) (ht : 0 ≤ t) (ht2 : t ≤ 9223372036854775807) (w : World) (hBs : Bs < n₀) (hn₀ : n₀ ≤ w.heap.size) (hc : w.cell? ⟨Bs, 0, none⟩ = some (.int .i64 t)) :
    SeqStopsK F n Try.prog 56 #[.pointer (some ⟨Bs, 0, none⟩)] (fun x : Fin 9 => #[Value.int .i64 ((x.val : Nat) : Int), Value.int .i64 ((t / 2 ^ (6 * x.val)).tmod 64)]) (Below n₀) (fun ys => ys = downTo 9)
      (fun pre => ∃ k, k ≤ 9 ∧ pre = downTo k) 9 w := fun l J Jx W hW _ _ hY h0 =>
  digits1_in F n h56 hro hn l Bs n₀ t ht ht2 hBs J Jx hY W ((hW.cell (p := ⟨Bs, 0, none⟩) (Nat.lt_of_lt_of_le hBs hn₀)).trans hc) h0

theorem digits_in (F : Fence) (n : Nat) (h48 : F.fn 48) (hro : F.round = none) (t : Int) (w : World) :
    CallsIn F n Try.prog 48 #[.int .i64 t] w fun e w' => e = .returned (.func (.func 56) #[] #[.pointer (some ⟨w.heap.size, 0, none⟩)]) ∧ w' = w.alloc (.cells #[.int .i64 t] 2) := by
  refine callsIn_of_wp Try.func48 rfl h48 ?_ hro
  simp only [Try.ntmps48, List.size_toArray, List.length_cons, List.length_nil, Nat.reduceAdd, Nat.reduceSub, Array.replicate_succ, Array.replicate_zero, List.push_toArray, List.append_toArray, List.nil_append, List.cons_append]
  gi_wp2
  go_ret
  exact ⟨rfl, rfl⟩

/-- Where a timer stands at a time: the highest level in which the digits are unlike. -/
def placeF (now at' : Int) : Int × Int :=
  match (downTo 9).find? (fun x => decide (dg now x.val ≠ dg at' x.val)) with
  | some x => (((x.val : Nat) : Int), dg at' x.val)
  | none => (0, at'.tmod 64)
theorem placeF_none {now at' : Int} (h : ∀ p ∈ downTo 9, dg now p.val = dg at' p.val) : placeF now at' = (0, at'.tmod 64) := by
  have : (downTo 9).find? (fun x => decide (dg now x.val ≠ dg at' x.val)) = none := by
    rw [List.find?_eq_none]; intro x hx; simp [h x hx]
  unfold placeF; rw [this]
theorem placeF_some {now at' : Int} {k : Nat} {ini : List (Fin 9)} {last : Fin 9} (hk : k ≤ 9) (e : downTo k = ini ++ [last]) (h : ∀ p ∈ ini, dg now p.val = dg at' p.val) (hl : dg now last.val ≠ dg at' last.val) : placeF now at' = (((last.val : Nat) : Int), dg at' last.val) := by
  have : (downTo 9).find? (fun x => decide (dg now x.val ≠ dg at' x.val)) = some last := by
    obtain ⟨r, hr⟩ : ∃ r, downTo 9 = downTo k ++ r := by
      refine ⟨(downTo 9).drop k, ?_⟩
      have : downTo k = (downTo 9).take k := by
        unfold downTo; rw [← List.map_take, List.take_range, Nat.min_eq_left hk]
      rw [this, List.take_append_drop]
    rw [hr, e, List.append_assoc, List.find?_append]
    have : ini.find? (fun x => decide (dg now x.val ≠ dg at' x.val)) = none := by
      rw [List.find?_eq_none]; intro x hx; simp [h x hx]
    rw [this]; simp [hl]
  unfold placeF; rw [this]

set_option maxRecDepth 100000 in
set_option maxHeartbeats 2000000 in
theorem place_in (F : Fence) (n : Nat) (h37 : F.fn 37) (h48 : F.fn 48) (h56 : F.fn 56) (hro : F.round = none) (hn : 3 ≤ n) (now at' : Int) (hnow : 0 ≤ now) (hnow2 : now ≤ 9223372036854775807) (hat : 0 ≤ at') (hat2 : at' ≤ 9223372036854775807) (w : World) :
    CallsIn F n Try.prog 37 #[.int .i64 now, .int .i64 at'] w fun e W' => e = .returned (.tuple #[.int .i64 (placeF now at').1, .int .i64 (placeF now at').2]) ∧ Below w.heap.size w W' := by
  have h1 : 1 ≤ n := by omega
  refine callsIn_of_wp_marks Try.func37 rfl h37 ?_ hro
  simp only [Try.ntmps37, List.size_toArray, List.length_cons, List.length_nil, Nat.reduceAdd, Nat.reduceSub, Array.replicate_succ, Array.replicate_zero, List.push_toArray, List.append_toArray, List.nil_append, List.cons_append]
  gi_wp2_with (gi_at_call 48; refine (digits_in F (n - 1) h48 hro _ _).mono ?_; rintro e w' ⟨rfl, rfl⟩)
  obtain ⟨W0, hW0⟩ : ∃ W0, (((w.alloc (Obj.cells #[Value.int IntKind.i64 now] 2)).alloc (Obj.cells #[Value.int IntKind.i64 0] 3)).alloc (Obj.cells #[Value.int IntKind.i64 0] 3)).alloc (Obj.cells #[Value.int IntKind.i64 at'] 2) = W0 := ⟨_, rfl⟩
  have hsz : W0.heap.size = w.heap.size + 4 := by rw [← hW0]; simp
  have hB0 : Below w.heap.size w W0 := by rw [← hW0]; exact ((((Below.refl _ w).alloc (Nat.le_refl _) _).alloc (by simp) _).alloc (by simp; omega) _).alloc (by simp; omega) _
  have c0 : W0.cell? ⟨w.heap.size, 0, none⟩ = some (.int .i64 now) := by subst hW0; go_simp
  have c1 : W0.cell? ⟨w.heap.size + 1, 0, none⟩ = some (.int .i64 0) := by subst hW0; go_simp
  have c2 : W0.cell? ⟨w.heap.size + 1 + 1, 0, none⟩ = some (.int .i64 0) := by subst hW0; go_simp
  have c3 : W0.cell? ⟨w.heap.size + 1 + 1 + 1, 0, none⟩ = some (.int .i64 at') := by subst hW0; go_simp
  have f1 : W0.frozen? ⟨w.heap.size + 1, 0, none⟩ = false := by subst hW0; go_simp
  have f2 : W0.frozen? ⟨w.heap.size + 1 + 1, 0, none⟩ = false := by subst hW0; go_simp
  rw [hW0]
  clear hW0
  refine wpIn_rangeFunc_ownG hro h1 (gf := 56) (lb := #[.pointer (some ⟨w.heap.size + 1 + 1 + 1, 0, none⟩)]) rfl h56 (enters_of Try.func56 (by kernel_rfl) rfl)
    (digits_stops F (n - 1) h56 hro (by omega) (w.heap.size + 1 + 1 + 1) (w.heap.size + 4) at' hat hat2 W0 (by omega) (by omega) c3) belowK_t (belowK_b (by omega)) (Below.refl _ _) (fun _ => rfl)
    (fun pre W => (∀ p ∈ pre, dg now p.val = dg at' p.val) ∧ Below (w.heap.size + 4) W0 W)
    (fun c pre W => (c = .ret ∧ ∃ ini last, pre = ini ++ [last] ∧ (∀ p ∈ ini, dg now p.val = dg at' p.val) ∧ dg now last.val ≠ dg at' last.val ∧ W.cell? ⟨w.heap.size + 1, 0, none⟩ = some (.int .i64 ((last.val : Nat) : Int)) ∧ W.cell? ⟨w.heap.size + 1 + 1, 0, none⟩ = some (.int .i64 (dg at' last.val))) ∧ Below w.heap.size w W)
    (OwnFrom.and (Own.from (fun s A B row hs hg hr => hs) _) (ownFrom_below (by omega) (by omega)))
    (fun c => OwnFrom.and (Own.from (fun s A B row hs hg hr => by obtain ⟨hc, ini, last, e1, e2, e3, e4, e5⟩ := hs; exact ⟨hc, ini, last, e1, e2, e3, cell_kept e4 hg hr, cell_kept e5 hg hr⟩) _) (ownFrom_below (Nat.le_refl _) (by omega)))
    ⟨by simp, Below.refl _ _⟩
    (fun x => { tmps := #[.int .i64 now, .int .i64 at', .pointer (some ⟨w.heap.size, 0, none⟩), undef, .pointer (some ⟨w.heap.size + 1, 0, none⟩), .pointer (some ⟨w.heap.size + 1 + 1, 0, none⟩), .int .i64 ((x.val : Nat) : Int), .int .i64 (dg at' x.val), .int .i64 at', .func (.func 56) #[] #[.pointer (some ⟨w.heap.size + 1 + 1 + 1, 0, none⟩)], .int .i64 ((x.val : Nat) : Int), .int .i64 (dg at' x.val), undef, undef, undef, undef, undef, undef, undef, undef, undef, undef, undef], defers := [] }) ?assign ?body ?done ?stop
  case assign =>
    intro l x W K hK
    gi_wp2
    exact hK
  case body =>
    rintro l pre x W ⟨hp, hB⟩ hx
    have g0 := (hB.cell (p := ⟨w.heap.size, 0, none⟩) (by simp)).trans c0
    have g1 := (hB.cell (p := ⟨w.heap.size + 1, 0, none⟩) (by simp)).trans c1
    have g2 := (hB.cell (p := ⟨w.heap.size + 1 + 1, 0, none⟩) (by simp)).trans c2
    have k1 := (hB.frozen (p := ⟨w.heap.size + 1, 0, none⟩) (by simp)).trans f1
    have k2 := (hB.frozen (p := ⟨w.heap.size + 1 + 1, 0, none⟩) (by simp)).trans f2
    clear c0 c1 c2 c3 f1 f2
    have hx8 : x.val ≤ 8 := by omega
    have hdx : dg now x.val = (now / 2 ^ (6 * x.val)).tmod 64 := rfl
    have HD := Lib.hid hdx
    clear hdx
    by_cases hd : dg now x.val = dg at' x.val
    · have e1 : ((now / 2 ^ (6 * x.val)).tmod 64 != dg at' x.val) = false := by rw [← HD.out, hd]; simp
      have HD2 := Lib.hid hd
      have HP := Lib.hid hp
      clear hd hp
      generalize hxx : x.val = xv at *
      have HX := Lib.hid hxx
      clear hxx
      gi_wp2
      exact ⟨KeepsFrom.refl _ _, Below.refl _ _, fun p hp' => (List.mem_append.1 hp').elim (HP.out p) (fun e => by simp at e; subst e; rw [HX.out]; exact HD2.out), hB⟩
    · have e1 : ((now / 2 ^ (6 * x.val)).tmod 64 != dg at' x.val) = true := by rw [← HD.out]; simpa using hd
      have HD2 := Lib.hid hd
      have HP := Lib.hid hp
      clear hd hp
      generalize hxx : x.val = xv at *
      have HX := Lib.hid hxx
      clear hxx
      have hs3 := hB.size
      have hw1 : w.heap.size + 1 < W.heap.size := by omega
      have hw2 : w.heap.size + 1 + 1 < W.heap.size := by omega
      gi_wp2
      refine ⟨((KeepsOthers.setCell _ _ _).trans (KeepsOthers.setCell _ _ _)).from _, ⟨rfl, pre, x, rfl, HP.out, by rw [HX.out]; exact HD2.out, ?_, ?_⟩, ?_⟩
      · rw [HX.out]; go_simp
      · rw [HX.out]; exact World.cell?_setCell_same' _ _ _ (by go_simp)
      · exact ((hB0.trans (hB.mono (by omega))).setCell (p := ⟨w.heap.size + 1, 0, none⟩) (by simp) _).setCell (p := ⟨w.heap.size + 1 + 1, 0, none⟩) (by simp; omega) _
  case done =>
    rintro D ys W hD rfl ⟨hp, hB⟩ hK
    have g1 := (hB.cell (p := ⟨w.heap.size + 1, 0, none⟩) (by simp)).trans c1
    have g2 := (hB.cell (p := ⟨w.heap.size + 1 + 1, 0, none⟩) (by simp)).trans c2
    have k1 := (hB.frozen (p := ⟨w.heap.size + 1, 0, none⟩) (by simp)).trans f1
    have k2 := (hB.frozen (p := ⟨w.heap.size + 1 + 1, 0, none⟩) (by simp)).trans f2
    clear c0 c1 c2 c3 f1 f2
    have hfin := placeF_none hp
    rw [Int.tmod_eq_emod_of_nonneg hat] at hfin
    have HF := Lib.hid hfin
    clear hfin hp
    have HK := Lib.hid hK
    clear hK
    have hs3 := hB.size
    have hw1 : w.heap.size + 1 < W.heap.size := by omega
    have hw2 : w.heap.size + 1 + 1 < W.heap.size := by omega
    gi_wp2
    have hK' := ((KeepsOthers.setCell W ⟨w.heap.size + 1, 0, none⟩ (.int .i64 0)).trans (KeepsOthers.setCell _ ⟨w.heap.size + 1 + 1, 0, none⟩ (.int .i64 (at' % 64)))).same D _ HK.out rfl
    have q1 : ((W.setCell ⟨w.heap.size + 1, 0, none⟩ (.int .i64 0)).setCell ⟨w.heap.size + 1 + 1, 0, none⟩ (.int .i64 (at' % 64))).cell? ⟨w.heap.size + 1, 0, none⟩ = some (.int .i64 0) := by go_simp
    have q2 : ((W.setCell ⟨w.heap.size + 1, 0, none⟩ (.int .i64 0)).setCell ⟨w.heap.size + 1 + 1, 0, none⟩ (.int .i64 (at' % 64))).cell? ⟨w.heap.size + 1 + 1, 0, none⟩ = some (.int .i64 (at' % 64)) := World.cell?_setCell_same' _ _ _ (by go_simp)
    have c5 := cell_kept q1 (grownBy_putObj' _ D (.deferred none)) (fun r e => by cases e; exact ⟨_, hK', rfl⟩)
    have c6 := cell_kept q2 (grownBy_putObj' _ D (.deferred none)) (fun r e => by cases e; exact ⟨_, hK', rfl⟩)
    refine ⟨by simp, .inl ⟨_, _, rfl, run_takeDeferred hK', ?_⟩⟩
    refine ⟨.tuple #[.int .i64 0, .int .i64 (at' % 64)], ?_, by rw [HF.out], (((hB0.trans (hB.mono (by omega))).setCell (p := ⟨w.heap.size + 1, 0, none⟩) (by simp) _).setCell (p := ⟨w.heap.size + 1 + 1, 0, none⟩) (by simp; omega) _).trans (belowK_b (w := w) (Nat.le_refl _) _ D _ _ (by omega) hK' rfl rfl)⟩
    simp [results, Try.f37, go_sem, c5, c6]
  case stop =>
    rintro D c pre W hD ⟨k, hk, rfl⟩ ⟨⟨rfl, ini, last, e1, e2, e3, h1', h2'⟩, hB⟩ hK
    gi_wp2
    refine ⟨by simp, .inl ⟨_, _, rfl, run_takeDeferred hK, ?_⟩⟩
    have c5 := cell_kept h1' (grownBy_putObj' _ D (.deferred none)) (fun r e => by cases e; exact ⟨_, hK, rfl⟩)
    have c6 := cell_kept h2' (grownBy_putObj' _ D (.deferred none)) (fun r e => by cases e; exact ⟨_, hK, rfl⟩)
    refine ⟨.tuple #[.int .i64 ((last.val : Nat) : Int), .int .i64 (dg at' last.val)], ?_, by rw [placeF_some hk e1 e2 e3], hB.trans (belowK_b (w := w) (Nat.le_refl _) _ D _ _ (by omega) hK rfl rfl)⟩
    simp [results, Try.f37, go_sem, c5, c6]

def wheel_place.f (a0 : Int) (a1 : Int) : Option (Int × Int) := if 0 ≤ a0 ∧ a0 ≤ 9223372036854775807 ∧ 0 ≤ a1 ∧ a1 ≤ 9223372036854775807 then some (placeF a0 a1) else none
theorem wheel_place.calls (a0 : Int) (a1 : Int) (r1 : Int) (r2 : Int) (w : World) (h : wheel_place.f a0 a1 = some (r1, r2)) :
    Calls Try.prog 37 #[.int .i64 a0, .int .i64 a1] w fun e w' => e = .returned (.tuple #[.int .i64 r1, .int .i64 r2]) ∧ Below w.heap.size w w' := by
  unfold wheel_place.f at h
  split at h
  · rename_i hh
    have e : placeF a0 a1 = (r1, r2) := by simpa using h
    have := (callsIn_wide (n := 3)).1 (place_in Fence.wide 3 trivial trivial trivial rfl (by omega) a0 a1 hh.1 hh.2.1 hh.2.2.1 hh.2.2.2 w)
    rwa [e] at this
  · cases h
end Go.Proofs.Ytolaaplnoahnkaa.C
