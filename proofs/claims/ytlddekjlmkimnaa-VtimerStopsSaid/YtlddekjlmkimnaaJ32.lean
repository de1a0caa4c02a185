import Derived.Test.YtlddekjlmkimnaaJ31
import Derived.RangeFuncWrites
section
namespace Go.Proofs.Ytlddekjlmkimnaa.C
open Go.RowKit Go.Shelf Go.Proofs.YtlddekjlmkimnaaW.PrintWords Go.Proofs.YtlddekjlmkimnaaW.PrintLast Go.Proofs.YtlddekjlmkimnaaW.PrintMore
set_option linter.unusedVariables false
set_option linter.unusedSimpArgs false

/-- How a round's body ends: off its end, and no otherwise. -/
def goesOn (B : Nat) (R : World → Prop) (W : World) : Exit → Act → World → Prop
  | .normal, _, W' => KeepsFrom B W W' ∧ R W'
  | _, _, _ => False

/-- The loop's record and the block of what is deferred stand. -/
structure Stands (l D : Nat) (rec : Loop) (W : World) : Prop where
  lp : W.heap[l]? = some (.loop rec)
  df : W.heap[D]? = some (.deferred (some []))
theorem Stands.keeps {l D B : Nat} {rec : Loop} {W W' : World} (h : Stands l D rec W) (hk : KeepsFrom B W W') (hl : B ≤ l) (hd : B ≤ D) : Stands l D rec W' := ⟨hk.same _ _ hl h.lp rfl, hk.same _ _ hd h.df rfl⟩

/-- A range over a function whose body always goes on. Nothing is asked of the function but what is shown of it, of this very loop (hiter): what a round makes of a world that fits (X) is told as an equation of yield. -/
theorem range_on {α : Type} {P : Program} {n : Nat} {g : Operand} {ps : Array Tmp} {assign body : Code} {Q : Exit → Act → World → Prop} {a : Act} {w : World}
    (h1 : 1 ≤ n) {gf : Nat} {lb : Array Value} (hg : a.eval g = .func (.func gf) #[] lb) (eg : ∀ args w, (callFunc gf args).run P w = .ok (.enter gf args) w)
    {encs : α → Array Value} (hps : ∀ x, (encs x).size = ps.size) (X : α → World → Prop) (X' : α → World → Act → World → Prop) (Y : α → World → World → Prop) (R : World → Prop)
    (hXp : ∀ x W a' W' k o o', X' x W a' W' → w.heap.size ≤ k → W'.heap[k]? = some o → o.isCells = false → X' x W a' (W'.putObj k o'))
    (hYp : ∀ x W W' k o o', Y x W W' → w.heap.size ≤ k → W'.heap[k]? = some o → o.isCells = false → Y x W (W'.putObj k o'))
    (hRp : ∀ W k o o', R W → w.heap.size ≤ k → W.heap[k]? = some o → o.isCells = false → R (W.putObj k o'))
    (hassign : ∀ (l : Nat) (x : α) (W : World) (K : Act → World → Prop), X x W → (∀ a' W', X' x W a' W' → KeepsFrom w.heap.size W W' → K a' W') →
      assign.wpIn (Fence.wide.inRound l) (n - 1 - 1) P (Exit.then K (fun _ _ _ => False)) { tmps := (ps.zip (encs x)).foldl (fun t (p, v) => t.setIfInBounds p v) a.tmps, defers := [] } W)
    (hbody : ∀ (l : Nat) (x : α) (W : World) (a' : Act) (W' : World), X' x W a' W' → body.wpIn (Fence.wide.inRound l) (n - 1 - 1) P (goesOn w.heap.size (Y x W) W') a' W')
    (hiter : ∀ (l : Nat) (rec : Loop) (W1 : World), w.heap.size < l → Below w.heap.size w W1 → Stands l w.heap.size rec W1 →
      (∀ x W, Stands l w.heap.size rec W → X x W → YieldAt Fence.wide (n - 1 - 1) P l (encs x) W fun e W' => e = .returned (.bool true) ∧ Stands l w.heap.size rec W' ∧ Y x W W') →
      CallsIn Fence.wide (n - 1) P gf (#[.func (.yield l) #[] #[]] ++ lb) W1 fun e W' => (∃ v, e = .returned v) ∧ Stands l w.heap.size rec W' ∧ R W')
    (hdone : ∀ W, R W → W.heap[w.heap.size]? = some (.deferred (some [])) → Q .normal { a with defers := { target := .collected w.heap.size, args := #[] } :: a.defers } W) :
    (Code.rangeFunc g ps assign body).wpIn Fence.wide n P Q a w := by
  refine wpIn_rangeFunc (fun fn hfn => ?_)
  obtain ⟨rec, hrec⟩ : ∃ rec : LoopState → Option Code → Loop, rec = fun st pe => { state := st, pending := pe, fn, tmps := a.tmps, params := ps, assign, body, defers := w.heap.size } := ⟨_, rfl⟩
  have hD : (w.alloc (.deferred (some []))).heap[w.heap.size]? = some (.deferred (some [])) := World.alloc_heap_new w _
  obtain ⟨W1, hW1⟩ : ∃ W1, (w.alloc (.deferred (some []))).alloc (.loop (rec .ready none)) = W1 := ⟨_, rfl⟩
  have hst : Stands (w.heap.size + 1) w.heap.size (rec .ready none) W1 := by
    rw [← hW1]
    refine ⟨?_, (Below.heap_alloc _ _ _ (by simp)).trans hD⟩
    have := World.alloc_heap_new (w.alloc (.deferred (some []))) (.loop (rec .ready none))
    rwa [World.size_alloc] at this
  have hbel : Below w.heap.size w W1 := by rw [← hW1]; exact ((Below.refl _ w).alloc (Nat.le_refl _) _).alloc (by simp) _
  refine ⟨w.heap.size + 1, [{ target := .collected w.heap.size, args := #[] }], W1, { target := .fn (.func gf) lb, args := #[.func (.yield (w.heap.size + 1)) #[] #[]] }, W1, gf, #[.func (.yield (w.heap.size + 1)) #[] #[]] ++ lb, W1, ?_, ?_, fun _ _ => trivial, ?_, fun _ => h1, ?_⟩
  · rw [← hW1, hrec]; exact run_enterLoop_outer _ _ _ _ _
  · simp only [resolve, hg]
    simp [go_sem]
  · simp [invoke, go_sem, eg]
  · refine (hiter (w.heap.size + 1) (rec .ready none) W1 (by omega) hbel hst (fun x W hs hx => ?_)).mono ?_
    · -- one round
      have hy := run_yield (P := P) (args := encs x) hs.lp (by rw [hrec]; exact hps x)
      rw [hrec] at hy
      refine ⟨fn, _, assign, body, hy, roundIn_of_wpIn hfn ?_⟩
      refine hassign _ x W _ hx (fun a' Wa hx' hka => ?_)
      have hsa := hs.keeps hka (by omega) (Nat.le_refl _)
      have hlt : w.heap.size + 1 < Wa.heap.size := (Array.getElem?_eq_some_iff.1 hsa.lp).1
      have hs2 : Stands (w.heap.size + 1) w.heap.size ({ rec .ready none with state := .busy }) (Wa.putObj (w.heap.size + 1) (.loop { rec .ready none with state := .busy })) :=
        ⟨World.putObj_heap_same hlt, (World.putObj_heap_other (by omega)).trans hsa.df⟩
      refine ⟨_, run_beginRound hsa.lp (by rw [hrec]), ?_⟩
      refine wpIn_mono (hbody _ x W _ _ (hXp _ _ _ _ _ _ _ hx' (by omega) hsa.lp rfl)) ?_
      rintro e a3 W3 hp
      cases e with
      | normal =>
        obtain ⟨hk3, hy3⟩ := hp
        have hs3 := hs2.keeps hk3 (by omega) (Nat.le_refl _)
        have hend := run_endRound (P := P) none hs3.lp
        rw [hrec] at hend
        refine ⟨_, _, hend, rfl, ?_, hYp _ _ _ _ _ _ hy3 (by omega) hs3.lp rfl⟩
        rw [hrec]
        exact ⟨World.putObj_heap_same (Array.getElem?_eq_some_iff.1 hs3.lp).1, (World.putObj_heap_other (by omega)).trans hs3.df⟩
      | ret => exact hp.elim
      | exit id => exact hp.elim
      | goto t => exact hp.elim
      | panic ch => exact hp.elim
      | outgrown => exact hp.elim
    · rintro e W2 ⟨⟨v, rfl⟩, hs, hr⟩
      have hend := run_endLoop (P := P) hs.lp (by rw [hrec]; simp)
      rw [hrec] at hend
      exact ⟨none, _, hend, hdone _ (hRp _ _ _ _ hr (by omega) hs.lp rfl) ((World.putObj_heap_other (by omega)).trans hs.df)⟩
end Go.Proofs.Ytlddekjlmkimnaa.C
end
section
namespace Go.Proofs.Ytlddekjlmkimnaa.C
open Go.RowKit Go.Shelf Go.Proofs.YtlddekjlmkimnaaW.PrintWords Go.Proofs.YtlddekjlmkimnaaW.PrintLast Go.Proofs.YtlddekjlmkimnaaW.PrintMore
set_option linter.unusedVariables false
set_option linter.unusedSimpArgs false
attribute [local go_sem] Oper.semAt_some

/-- The collector's row of rings so far. -/
def Row (B : Nat) (out : List S44) (A : World) : Prop := ∃ v, A.heap[B]? = some (.cells #[v] 33 (0, 0)) ∧ A.ownsRow B 44 4 v out.length (flat encR out)
theorem Row.same {B : Nat} {out : List S44} {A A' : World} (h : Row B out A) (hk : ∀ (k : Nat) (cells : Array Value) (t : TypeId), A.heap[k]? = some (.cells cells t (0, 0)) → t = 33 ∨ t = 44 → A'.heap[k]? = some (.cells cells t (0, 0))) : Row B out A' := by
  obtain ⟨v, hv, ho⟩ := h
  refine ⟨v, hk _ _ _ hv (.inl rfl), own_move ho (fun k hk' => ?_)⟩
  obtain ⟨cells, hc⟩ := own_typed ho k hk'
  rw [hc]
  exact hk _ _ _ hc (.inr rfl)
theorem Row.ko {B : Nat} {out : List S44} {A A' : World} (h : Row B out A) (hk : KO A A') : Row B out A' :=
  h.same (fun k cells t hc ht => hk.2 _ _ hc (fun c2 fr => by rcases ht with rfl | rfl <;> simp))

/-- Cells of other kinds than the collector's own have not changed, nor what lies below B0. -/
structure KC (B0 : Nat) (W W' : World) : Prop where
  os : W'.os = W.os
  tape : W'.tape = W.tape
  output : W'.output = W.output
  size : W.heap.size ≤ W'.heap.size
  block : ∀ k, k < B0 → W'.heap[k]? = W.heap[k]?
  cells : ∀ (k : Nat) (cells : Array Value) (t : TypeId), W.heap[k]? = some (.cells cells t (0, 0)) → t ≠ 33 → t ≠ 44 → W'.heap[k]? = some (.cells cells t (0, 0))
theorem KC.refl (B0 : Nat) (W : World) : KC B0 W W := ⟨rfl, rfl, rfl, Nat.le_refl _, fun _ _ => rfl, fun _ _ _ h _ _ => h⟩
theorem KC.trans {B0 : Nat} {W W' W'' : World} (h : KC B0 W W') (k : KC B0 W' W'') : KC B0 W W'' :=
  ⟨k.os.trans h.os, k.tape.trans h.tape, k.output.trans h.output, Nat.le_trans h.size k.size, fun i hi => (k.block i hi).trans (h.block i hi), fun i c t hc h1 h2 => k.cells _ _ _ (h.cells _ _ _ hc h1 h2) h1 h2⟩
theorem KC.put {B0 k : Nat} {W : World} {o o' : Obj} (hB : B0 ≤ k) (ho : W.heap[k]? = some o) (hc : o.isCells = false) : KC B0 W (W.putObj k o') :=
  ⟨rfl, rfl, rfl, by simp [World.putObj], fun i hi => World.putObj_heap_other (by omega), fun i c t hi _ _ => by
    have : i ≠ k := fun e => by subst e; rw [ho] at hi; obtain rfl := Option.some.inj hi; simp [Obj.isCells] at hc
    rw [World.putObj_heap_other this]; exact hi⟩
theorem Row.put {B k : Nat} {out : List S44} {W : World} {o o' : Obj} (h : Row B out W) (ho : W.heap[k]? = some o) (hc : o.isCells = false) : Row B out (W.putObj k o') :=
  h.same (fun i c t hi _ => by
    have : i ≠ k := fun e => by subst e; rw [ho] at hi; obtain rfl := Option.some.inj hi; simp [Obj.isCells] at hc
    rw [World.putObj_heap_other this]; exact hi)
theorem RI.kc {w0 W W' : World} {J J' : List S44 → World → Prop} {g pf pa : Nat} {now : Int} {ts : List S88} {rs : List S47} {out out' : List S44} {sv rv : Value} {Af : Option Addr} {cf : Nat} {L : List S88} {B0 : Nat}
    (h : RI w0 W J g pf pa now ts rs out sv rv Af cf L) (hk : KC B0 W W') (hB : w0.heap.size ≤ B0) (hj : J' out' W') : RI w0 W' J' g pf pa now ts rs out' sv rv Af cf L := by
  refine ⟨⟨hk.cells _ _ _ h.ao.blk (by decide) (by decide), h.ao.lo, ?_, ?_⟩, hj, ⟨hk.os.trans h.lo.os, hk.tape.trans h.lo.tape, hk.output.trans h.lo.output, Nat.le_trans h.lo.size hk.size, fun k hk' => (hk.block k (by omega)).trans (h.lo.block k hk')⟩, hk.cells _ _ _ h.bf (by decide) (by decide), hk.cells _ _ _ h.ba (by decide) (by decide), ?_⟩
  · refine Kd.R_mono (Kd.R_step (Kd.R_tight rfl h.ao.T) (fun k hk' _ => ?_)) (fun _ _ => trivial)
    obtain ⟨cells, hc⟩ := Kd.R_typed h.ao.T k hk'.symm
    rw [hc]; exact hk.cells _ _ _ hc (by decide) (by decide)
  · refine Kd.R_mono (Kd.R_step (Kd.R_tight rfl h.ao.A) (fun k hk' _ => ?_)) (fun _ _ => trivial)
    obtain ⟨cells, hc⟩ := Kd.R_typed h.ao.A k hk'.symm
    rw [hc]; exact hk.cells _ _ _ hc (by decide) (by decide)
  · refine Kd.R_mono (Kd.R_step (Kd.R_tight rfl h.fr) (fun k hk' _ => ?_)) (fun _ _ => trivial)
    obtain ⟨cells, hc⟩ := Kd.R_typed h.fr k hk'.symm
    rw [hc]; exact hk.cells _ _ _ hc (by decide) (by decide)
theorem KC.of_below {B0 : Nat} {W W' : World} (h : Below W.heap.size W W') (hB : B0 ≤ W.heap.size) : KC B0 W W' :=
  ⟨h.os, h.tape, h.output, h.size, fun k hk => h.block k (by omega), fun k c t hc _ _ => blk_below hc h⟩

theorem KC.of_kept {B0 : Nat} {W W' : World} {S : Nat → Prop} (h : Below B0 W W') (hk : Kept W W' S) (hS : ∀ k cells t, S k → W.heap[k]? = some (.cells cells t (0, 0)) → t = 33 ∨ t = 44) : KC B0 W W' :=
  ⟨h.os, h.tape, h.output, h.size, h.block, fun k c t hc h1 h2 => blk_kept hc hk (fun hs => (hS k c t hs hc).elim h1 h2)⟩

set_option maxRecDepth 100000 in
set_option maxHeartbeats 4000000 in
theorem collected_any (w0 w : World) (g pf pa : Nat) (now : Int) (ts : List S88) (rs : List S47) (sv rv : Value) (Af : Option Addr) (cf : Nat) (L : List S88) (fin : List S88 × List S47 × List S44)
    (hr : RI w0 w (fun _ _ => True) g pf pa now ts rs [] sv rv Af cf L) (hgo : ringsGo now ts rs [] L = some fin) (hL : L.length ≤ 1000000) (hnow : 0 ≤ now ∧ now ≤ 1125899906842624) :
    CallsIn Fence.wide 3 Try.prog 35 #[.func (.func 64) #[] #[.pointer (some ⟨pf, 0, none⟩), .pointer (some ⟨pa, 0, none⟩)]] w fun e W' => ∃ v sv' rv', e = .returned v ∧ Below w0.heap.size w0 W' ∧ AO W' w0.heap.size g now fin.1 fin.2.1 sv' rv' ∧ Kd.R k44 44 W' w.heap.size (fun _ => True) v fin.2.2 := by
  obtain ⟨i0, hi, hz0, hz1, hz2⟩ := info_parts info44
  refine callsIn_of_wp_marks Try.func35 rfl trivial ?_ rfl
  simp only [Try.ntmps35, List.size_toArray, List.length_cons, List.length_nil, Nat.reduceAdd, Nat.reduceSub, Array.replicate_succ, Array.replicate_zero, List.push_toArray, List.append_toArray, List.nil_append, List.cons_append]
  gi_wp2
  refine range_on (α := List S44 × S44) (by decide) (gf := 64) rfl (enters_of Try.func64 (by kernel_rfl) rfl) (encs := fun p => #[.agg #[.int .i64 p.2.f0, .int .i64 p.2.f1, .int .i64 p.2.f2, .int .i64 p.2.f3]]) (fun _ => rfl)
    (fun p W => Row w.heap.size p.1 W ∧ p.1.length ≤ 1000000)
    (fun p W a' W' => Row w.heap.size p.1 W' ∧ p.1.length ≤ 1000000 ∧ KC w0.heap.size W W' ∧ ∃ b : Nat, W'.heap[b]? = some (.cells #[.int .i64 p.2.f0, .int .i64 p.2.f1, .int .i64 p.2.f2, .int .i64 p.2.f3] 44 (0, 0)) ∧
      a' = { tmps := #[.func (.func 64) #[] #[.pointer (some ⟨pf, 0, none⟩), .pointer (some ⟨pa, 0, none⟩)], undef, .slice none 0 0, .pointer (some ⟨w.heap.size, 0, none⟩), .pointer (some ⟨b, 0, none⟩), .func (.func 64) #[] #[.pointer (some ⟨pf, 0, none⟩), .pointer (some ⟨pa, 0, none⟩)], .agg #[.int .i64 p.2.f0, .int .i64 p.2.f1, .int .i64 p.2.f2, .int .i64 p.2.f3], undef, undef, undef, undef, undef], defers := [] })
    (fun p W W' => KC w0.heap.size W W' ∧ Row w.heap.size (p.1 ++ [p.2]) W')
    (fun W => ∃ sv rv, RI w0 W (fun out A => Row w.heap.size out A) g pf pa now fin.1 fin.2.1 fin.2.2 sv rv Af cf L)
    ?xp ?yp ?rp ?assign ?body ?iter ?done
  case xp =>
    rintro p W a' W' k o o' ⟨h1, h2, h3, b, h4, h5⟩ hk ho hc
    have hlo := hr.lo.size
    refine ⟨h1.put ho hc, h2, h3.trans (KC.put (by simp at hk; omega) ho hc), b, ?_, h5⟩
    have : b ≠ k := fun e => by subst e; rw [ho] at h4; obtain rfl := Option.some.inj h4; simp [Obj.isCells] at hc
    rw [World.putObj_heap_other this]; exact h4
  case yp =>
    rintro p W W' k o o' ⟨h1, h2⟩ hk ho hc
    have hlo := hr.lo.size
    exact ⟨h1.trans (KC.put (by simp at hk; omega) ho hc), h2.put ho hc⟩
  case rp =>
    rintro W k o o' ⟨sv1, rv1, h⟩ hk ho hc
    have hlo := hr.lo.size
    exact ⟨sv1, rv1, h.kc (KC.put (by simp at hk; omega) ho hc) (Nat.le_refl _) (h.j.put ho hc)⟩
  case assign =>
    rintro l p W K ⟨hrow, hlen⟩ hK
    have hlo := hr.lo.size
    have hk := hK { tmps := #[.func (.func 64) #[] #[.pointer (some ⟨pf, 0, none⟩), .pointer (some ⟨pa, 0, none⟩)], undef, .slice none 0 0, .pointer (some ⟨w.heap.size, 0, none⟩), .pointer (some ⟨W.heap.size, 0, none⟩), .func (.func 64) #[] #[.pointer (some ⟨pf, 0, none⟩), .pointer (some ⟨pa, 0, none⟩)], .agg #[.int .i64 p.2.f0, .int .i64 p.2.f1, .int .i64 p.2.f2, .int .i64 p.2.f3], undef, undef, undef, undef, undef], defers := [] }
      (W.alloc (.cells #[.int .i64 p.2.f0, .int .i64 p.2.f1, .int .i64 p.2.f2, .int .i64 p.2.f3] 44))
      ⟨hrow.same (fun k c t hc _ => (Below.heap_alloc W _ k (blk_lt hc)).trans hc), hlen, ⟨rfl, rfl, rfl, by simp, fun k hk => Below.heap_alloc W _ k (by obtain ⟨v, hv, -⟩ := hrow; have := blk_lt hv; omega), fun k c t hc _ _ => (Below.heap_alloc W _ k (blk_lt hc)).trans hc⟩, W.heap.size, blk_new _ _, rfl⟩ ((KeepsOthers.alloc W _).from _)
    gi_wp2
    exact hk
  case body =>
    rintro l p W a' W' ⟨⟨v, hv, ho⟩, hlen, hkc, b, hb, rfl⟩
    have hlo := hr.lo.size
    have hvn : some w.heap.size ≠ v.ownBlock := fun e => by
      obtain ⟨cells, hc⟩ := own_typed ho _ e.symm
      rw [hv] at hc; simp at hc
    have c0 : W'.cell? ⟨w.heap.size, 0, none⟩ = some v := (blk_cell hv 0).trans rfl
    have b0 : W'.cell? ⟨b, 0, none⟩ = some (.int .i64 p.2.f0) := (blk_cell hb 0).trans rfl
    have b1 : W'.cell? ⟨b, 1, none⟩ = some (.int .i64 p.2.f1) := (blk_cell hb 1).trans rfl
    have b2 : W'.cell? ⟨b, 2, none⟩ = some (.int .i64 p.2.f2) := (blk_cell hb 2).trans rfl
    have b3 : W'.cell? ⟨b, 3, none⟩ = some (.int .i64 p.2.f3) := (blk_cell hb 3).trans rfl
    have hgt := blk_lt hv
    have hnews : ∀ (j : Nat) (u : Value), ([.int .i64 p.2.f0, .int .i64 p.2.f1, .int .i64 p.2.f2, .int .i64 p.2.f3] : List Value)[j]? = some u → (W'.alloc (.cells #[.int .i64 p.2.f0, .int .i64 p.2.f1, .int .i64 p.2.f2, .int .i64 p.2.f3] 44)).cell? ((⟨W'.heap.size, 0, none⟩ : Addr).add j) = some u := fun j u hj => by
      have h1 := blk_cell (blk_new W' (.cells #[.int .i64 p.2.f0, .int .i64 p.2.f1, .int .i64 p.2.f2, .int .i64 p.2.f3] 44)) j
      have h2 : ((⟨W'.heap.size, 0, none⟩ : Addr).add j) = ⟨W'.heap.size, j, none⟩ := by simp only [Addr.add, Nat.zero_add]; split <;> simp_all
      rw [h2, h1]
      have : (#[.int .i64 p.2.f0, .int .i64 p.2.f1, .int .i64 p.2.f2, .int .i64 p.2.f3] : Array Value)[j]? = some u := by simpa using hj
      exact this
    have HV := Lib.hid hv
    have HO := Lib.hid ho
    have HN := Lib.hid hnews
    have HKC := Lib.hid hkc
    have HVN := Lib.hid hvn
    clear hv ho hnews hkc hvn hb
    gi_wp2_with (gi_at_builtin; refine wpListIn_append_own _ rfl _ _ 33 rfl w.heap.size 44 i0 _ 4 32 Try.underlying33 hi hz0 hz1 hz2 rfl (by decide) _ _ _ rfl (HO.out.alloc _) ⟨W'.heap.size, 0, none⟩ 1 1 [.int .i64 p.2.f0, .int .i64 p.2.f1, .int .i64 p.2.f2, .int .i64 p.2.f3] rfl rfl HN.out (by simp [Value.oneCell']) (by unfold maxLen; omega) (by omega) (by simp; omega) ?_; intro v' w6 hown' hgrow' hnil'; obtain ⟨gv, cv, rfl⟩ := ownsRow_succ hown'; have hb6 := blk_grown (blk_alloc HV.out _) hgrow' HVN.out; have q0 : w6.cell? ⟨w.heap.size, 0, none⟩ = some v := (blk_cell hb6 0).trans rfl; have q1 := blk_frozen hb6 0; have HB6 := Lib.hid hb6; have HOW := Lib.hid hown'; have HGR := Lib.hid hgrow'; clear hb6 hown' hgrow' hnil' c0 b0 b1 b2 b3)
    have hxl : (flat encR (p.1 ++ [p.2])) = flat encR p.1 ++ [.int .i64 p.2.f0, .int .i64 p.2.f1, .int .i64 p.2.f2, .int .i64 p.2.f3] := by simp [flat, encR]
    have hrl := World.ownsRow.lt HO.out
    have hk1 : Kept W' w6 (fun k => k = w.heap.size ∨ some k = v.ownBlock) := Kept.of_grown HGR.out ((Kept.refl W' _).alloc _) (fun k e => .inl (.inr e.symm))
    have hb1' : Below w.heap.size W' w6 := ((Below.refl w.heap.size W').alloc (by omega) _).grown HGR.out (by simp; omega) (fun k e => (hrl k e).1)
    have hk2 := hk1.setCell (p := ⟨w.heap.size, 0, none⟩) (.inl (.inl rfl)) (.slice (some ⟨gv, 0, none⟩) (p.1.length + 1) cv)
    have hb2' := hb1'.setCell (p := ⟨w.heap.size, 0, none⟩) (Nat.le_refl _) (.slice (some ⟨gv, 0, none⟩) (p.1.length + 1) cv)
    refine ⟨?_, HKC.out.trans (KC.of_kept (hb2'.mono hlo) hk2 ?_), ?_⟩
    · refine (((KeepsOthers.alloc W' _).trans (KeepsOthers.of_grownBy HGR.out (fun j o hj ho => ?_))).trans (KeepsOthers.setCell _ _ _)).from _
      obtain ⟨cells, hc⟩ := own_typed (HO.out.alloc _) j hj
      rw [hc] at ho
      obtain rfl := Option.some.inj ho
      rfl
    · rintro k cells t (rfl | hs) hc
      · rw [HV.out] at hc
        simp only [Option.some.injEq, Obj.cells.injEq] at hc
        exact .inl hc.2.1.symm
      · obtain ⟨c2, hc2⟩ := own_typed HO.out k hs.symm
        rw [hc2] at hc
        simp only [Option.some.injEq, Obj.cells.injEq] at hc
        exact .inr hc.2.1.symm
    · refine ⟨.slice (some ⟨gv, 0, none⟩) (p.1.length + 1) cv, blk_put HB6.out 0 _ rfl, ?_⟩
      rw [List.length_append, hxl]
      refine own_move HOW.out (fun k hk => ?_)
      obtain ⟨c2, hc2⟩ := own_typed HOW.out k hk
      exact Below.heap_setCell _ _ _ _ (fun e => by
        have e : k = w.heap.size := e
        subst e
        rw [HB6.out] at hc2
        simp at hc2)
  case iter =>
    intro l rec W1 hl hb hst hy
    have hlo := hr.lo.size
    have hb0 : Below w.heap.size w W1 := ((Below.refl _ w).alloc (Nat.le_refl _) _).trans (hb.mono (by simp))
    have hrow0 : Row w.heap.size [] W1 := by
      refine ⟨.slice none 0 0, blk_below (blk_new w _) hb, ?_⟩
      simpa [flat] using World.ownsRow_nil (w := W1) (base := w.heap.size) (e := 44) (size := 4)
    have hri : RI w0 W1 (fun out A => Row w.heap.size out A ∧ Stands l (w.alloc (.cells #[.slice none 0 0] 33)).heap.size rec A) g pf pa now ts rs [] sv rv Af cf L :=
      hr.kc (KC.of_below hb0 hlo) (Nat.le_refl _) ⟨hrow0, hst⟩
    refine (rings1 2 (by omega) w0 W1 _ l g pf pa now ts rs sv rv Af cf L fin ?_ ?_ hri hgo hL hnow).mono ?_
    · rintro out A A' ⟨h1, h2⟩ hk
      exact ⟨h1.ko hk, hk.2 _ _ h2.lp (fun c fr => by simp), hk.2 _ _ h2.df (fun c fr => by simp)⟩
    · intro out x W2 ts' rs' sv' rv' hri hlen
      obtain ⟨fn_, tm_, as_, bd_, y1, y2⟩ := hy (out, x) W2 hri.j.2 ⟨hri.j.1, by show out.length ≤ _; omega⟩
      refine ⟨fn_, tm_, as_, bd_, y1, y2.mono ?_⟩
      rintro e W' ⟨he, hst', hkc, hrow⟩
      exact ⟨he, hri.kc hkc (Nat.le_refl _) ⟨hrow, hst'⟩⟩
    · rintro e W' ⟨hv, sv', rv', hri⟩
      exact ⟨hv, hri.j.2, sv', rv', hri.kc (KC.refl _ _) (Nat.le_refl _) hri.j.1⟩
  case done =>
    rintro W ⟨sv', rv', hri⟩ hD
    have hlo := hr.lo.size
    obtain ⟨v, hv, ho⟩ := hri.j
    have c0 : W.cell? ⟨w.heap.size, 0, none⟩ = some v := (blk_cell hv 0).trans rfl
    gi_wp2
    have hput : ∀ o', KC w0.heap.size W (W.putObj (w.alloc (.cells #[.slice none 0 0] 33)).heap.size o') := fun o' => KC.put (by simp; omega) hD rfl
    refine ⟨by simp, .inl ⟨_, _, rfl, run_takeDeferred hD, ?_⟩⟩
    have hf := hri.kc (J' := fun out A => Row w.heap.size out A) (hput (.deferred none)) (Nat.le_refl _) (hri.j.put hD rfl)
    obtain ⟨v2, hv2, ho2⟩ := hf.j
    have e2 : v2 = v := by
      have h1 : (W.putObj (w.alloc (.cells #[.slice none 0 0] 33)).heap.size (.deferred none)).heap[w.heap.size]? = some (.cells #[v] 33 (0, 0)) := by
        rw [World.putObj_heap_other (by simp)]; exact hv
      rw [h1] at hv2
      simpa using hv2.symm
    subst e2
    refine ⟨v2, ?_, v2, sv', rv', rfl, hf.lo, hf.ao, R44_mk ho2 (fun _ _ => trivial)⟩
    simp [results, Try.f35, go_sem]
end Go.Proofs.Ytlddekjlmkimnaa.C
end
