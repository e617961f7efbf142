/- Parts of the proof of subDeep_holds (14 of 16): what it says and shows stands at its declarations. -/
import Derived.Test.YtfgglniigeagdaaDoorZSp13
import Derived.RangeFuncFrom
import Derived.RangeFuncNested
import Derived.RangeFuncCalls
import Derived.RangeFuncBound
import Derived.TacticsInMore
import Derived.OwnWalkIn
import Derived.LoopIn
import Derived.Shelf.RegionOpen
import Derived.LoopTactic
namespace Go.Proofs.YtfgglniigeagdaaDoor.Cn
set_option linter.unusedSimpArgs false
set_option linter.unusedVariables false
open Go.RowKit Go.Maps Go.Proofs.YtfgglniigeagdaaDoorW.PrintWords Go.Proofs.YtfgglniigeagdaaDoorW.PrintLast Go.Proofs.YtfgglniigeagdaaDoorW.PrintMore Go.Proofs.YtfgglniigeagdaaDoor.QD
theorem blk_new' (w : World) (o : Obj) : (w.alloc o).heap[w.heap.size]? = some o := by show (w.heap.push o)[w.heap.size]? = some o; simp
theorem blk_lt' {w : World} {k : Nat} {o : Obj} (h : w.heap[k]? = some o) : k < w.heap.size := (Array.getElem?_eq_some_iff.1 h).1
/-- What the loop's own steps, and the iterator's, leave as it is. -/
structure Stays (nb B : Nat) (I : World → Prop) : Prop where
  put : ∀ (W : World) (l : Nat) (o : Obj), B ≤ l → l < W.heap.size → I W → I (W.putObj l o)
  set : ∀ (W : World) (v : Value), I W → I (W.setCell ⟨nb, 0, none⟩ v)
  drew : ∀ W : World, I W → I W.drew
  alloc : ∀ (W : World) (o : Obj), I W → I (W.alloc o)
/-- What a round leaves as it is, if it goes on. -/
structure RKeep (nb B : Nat) (W W' : World) : Prop where
  size : W.heap.size ≤ W'.heap.size
  own : W'.heap[nb]? = W.heap[nb]?
  new : ∀ k, B ≤ k → k < W.heap.size → W'.heap[k]? = W.heap[k]?
/-- How a round's body may be left. -/
def cellPost (nb B : Nat) (I : List Int → World → Prop) (Ix : Code → List Int → World → Prop) (p : List Int) (W : World) : Exit → Act → World → Prop
  | .normal, _, W' => RKeep nb B W W' ∧ I p W'
  | .ret, _, W' => (W.heap.size ≤ W'.heap.size ∧ ∀ k, B ≤ k → k < W.heap.size → W'.heap[k]? = W.heap[k]?) ∧ Ix .ret p W'
  | _, _, _ => False
/-- The iterator's contract. -/
def SeqCell (n : Nat) (P : Program) (gf : Nat) (lb : Array Value) (nb : Nat) (X : Obj) (Good : World → Prop) (Ok : Int → Prop) (S Sp : List Int → Prop) : Prop :=
  ∀ (l : Nat) (J Jx : List Int → World → Prop) (W : World), (∀ p W v, J p W → J p (W.setCell ⟨nb, 0, none⟩ v)) → (∀ p W, J p W → J p W.drew) → (∀ p W, J p W → Good W) →
    (∀ p (x : Int) W1, J p W1 → Ok x → YieldAt Fence.wide (n - 1) P l #[.int .i64 x] W1 fun e W' => (e = .returned (.bool true) ∧ J (p ++ [x]) W' ∧ W'.heap[nb]? = W1.heap[nb]?) ∨ (e = .returned (.bool false) ∧ Jx (p ++ [x]) W')) →
    J [] W → W.heap[nb]? = some X →
    CallsIn Fence.wide n P gf (#[.func (.yield l) #[] #[]] ++ lb) W fun e W' => (∃ v, e = .returned v) ∧ ((∃ p, S p ∧ J p W') ∨ (∃ p, Sp p ∧ Jx p W'))
theorem range_cell {n : Nat} {P : Program} {g : Operand} {ps : Array Tmp} {assign body : Code} {Q : Exit → Act → World → Prop} {a : Act} {w : World} {gf : Nat} {lb : Array Value} {nb : Nat} {X : Obj} {Good : World → Prop} {Ok : Int → Prop} {S Sp : List Int → Prop}
    (hg : a.eval g = .func (.func gf) #[] lb) (eg : ∀ args w, (callFunc gf args).run P w = .ok (.enter gf args) w) (hps : ps.size = 1)
    (hseq : SeqCell (n - 1) P gf lb nb X Good Ok S Sp) (hnb : nb < w.heap.size) (hX : w.heap[nb]? = some X)
    (I : List Int → World → Prop) (Ix : Code → List Int → World → Prop) (hI : ∀ p, Stays nb w.heap.size (I p)) (hG : ∀ p W, I p W → Good W)
    (hIx : ∀ c p W l o, w.heap.size ≤ l → l < W.heap.size → Ix c p W → Ix c p (W.putObj l o)) (h0 : I [] w) (a₁ : Int → Act)
    (hassign : ∀ (l : Nat) (x : Int) (W : World) (K : Act → World → Prop), K (a₁ x) W →
      assign.wpIn (Fence.wide.inRound l) (n - 1 - 1) P (Exit.then K (fun _ _ _ => False)) { tmps := (ps.zip #[.int .i64 x]).foldl (fun t (p, v) => t.setIfInBounds p v) a.tmps, defers := [] } W)
    (hbody : ∀ (l : Nat) (p : List Int) (x : Int) (W : World), I p W → Ok x → body.wpIn (Fence.wide.inRound l) (n - 1 - 1) P (cellPost nb w.heap.size I Ix (p ++ [x]) W) (a₁ x) W)
    (hdone : ∀ (D : Nat) (p : List Int) (W : World), w.heap.size ≤ D → S p → I p W → W.heap[D]? = some (.deferred (some [])) → Q .normal { a with defers := { target := .collected D, args := #[] } :: a.defers } W)
    (hstop : ∀ (D : Nat) (c : Code) (p : List Int) (W : World), w.heap.size ≤ D → Sp p → Ix c p W → W.heap[D]? = some (.deferred (some [])) → c.wpIn Fence.wide n P Q { a with defers := { target := .collected D, args := #[] } :: a.defers } W) :
    (Code.rangeFunc g ps assign body).wpIn Fence.wide n P Q a w := by
  refine wpIn_rangeFunc fun fn _ => ?_
  let rec0 : LoopState → Option Code → Obj := fun st pe => .loop { state := st, pending := pe, fn, tmps := a.tmps, params := ps, assign, body, defers := w.heap.size }
  let D := w.heap.size
  let R := w.heap.size + 1
  let w1 := (w.alloc (.deferred (some []))).alloc (rec0 .ready none)
  have r1 : w1.heap[R]? = some (rec0 .ready none) := by
    have := blk_new' (w.alloc (.deferred (some []))) (rec0 .ready none)
    rwa [World.size_alloc] at this
  have d1 : w1.heap[D]? = some (.deferred (some [])) := by
    have h := blk_new' w (.deferred (some []))
    exact (Below.heap_alloc _ _ _ (by simp [D])).trans h
  have i1 : I [] w1 := (hI []).alloc _ _ ((hI []).alloc _ _ h0)
  have x1 : w1.heap[nb]? = some X := (Below.heap_alloc _ _ _ (by simp; omega)).trans ((Below.heap_alloc _ _ _ hnb).trans hX)
  refine ⟨R, [{ target := .collected D, args := #[] }], w1, { target := .fn (.func gf) lb, args := #[.func (.yield R) #[] #[]] }, w1, gf, #[.func (.yield R) #[] #[]] ++ lb, w1, run_enterLoop_outer _ _ _ _ _, ?_, ?_, ?_, (fun h => (by cases h)), ?_⟩
  · simp only [resolve, hg]
    simp [go_sem]
  · intro f' _
    trivial
  · simp [invoke, go_sem, eg]
  · let J : List Int → World → Prop := fun p W => I p W ∧ W.heap[R]? = some (rec0 .ready none) ∧ W.heap[D]? = some (.deferred (some []))
    let Jx : List Int → World → Prop := fun p W => ∃ c, Ix c p W ∧ W.heap[R]? = some (rec0 .done (some c)) ∧ W.heap[D]? = some (.deferred (some []))
    have hnR : R ≠ nb := by show w.heap.size + 1 ≠ nb; omega
    have hnD : D ≠ nb := by show w.heap.size ≠ nb; omega
    have hDR : D ≠ R := by show w.heap.size ≠ w.heap.size + 1; omega
    refine (hseq R J Jx w1 (fun p W v hj => ⟨(hI p).set _ _ hj.1, (Below.heap_setCell W ⟨nb, 0, none⟩ v R hnR).trans hj.2.1, (Below.heap_setCell W ⟨nb, 0, none⟩ v D hnD).trans hj.2.2⟩) (fun p W hj => ⟨(hI p).drew _ hj.1, hj.2.1, hj.2.2⟩) (fun p W hj => hG p W hj.1) ?_ ⟨i1, r1, d1⟩ x1).mono ?_
    · -- a round
      rintro p x W ⟨hi, hr, hd⟩ hok
      have hlt : R < W.heap.size := blk_lt' hr
      have hltD : D < W.heap.size := blk_lt' hd
      refine ⟨fn, _, assign, body, run_yield hr (by simp [hps]), roundIn_of_wpIn trivial (hassign R x W _ ⟨_, run_beginRound hr rfl, ?_⟩)⟩
      refine wpIn_mono (hbody R p x (W.putObj R (rec0 .busy none)) ((hI p).put _ _ _ (by show w.heap.size ≤ w.heap.size + 1; omega) hlt hi) hok) ?_
      have hrb : (W.putObj R (rec0 .busy none)).heap[R]? = some (rec0 .busy none) := World.putObj_heap_same hlt
      have hdb : (W.putObj R (rec0 .busy none)).heap[D]? = some (.deferred (some [])) := (World.putObj_heap_other hDR).trans hd
      have hnbk : (W.putObj R (rec0 .busy none)).heap[nb]? = W.heap[nb]? := World.putObj_heap_other (Ne.symm hnR)
      intro e a3 W3 hp
      cases e with
      | normal =>
        obtain ⟨hk, hi3⟩ := hp
        have hr3 : W3.heap[R]? = some (rec0 .busy none) := (hk.new R (by show w.heap.size ≤ w.heap.size + 1; omega) (by rw [World.putObj_size]; exact hlt)).trans hrb
        have hd3 : W3.heap[D]? = some (.deferred (some [])) := (hk.new D (Nat.le_refl _) (by rw [World.putObj_size]; exact hltD)).trans hdb
        refine ⟨_, _, run_endRound none hr3, .inl ⟨rfl, ⟨(hI _).put _ _ _ (by show w.heap.size ≤ w.heap.size + 1; omega) (blk_lt' hr3) hi3, World.putObj_heap_same (blk_lt' hr3), (World.putObj_heap_other hDR).trans hd3⟩, ?_⟩⟩
        exact (World.putObj_heap_other (Ne.symm hnR)).trans (hk.own.trans hnbk)
      | ret =>
        obtain ⟨⟨hsz, hk⟩, hi3⟩ := hp
        have hr3 : W3.heap[R]? = some (rec0 .busy none) := (hk R (by show w.heap.size ≤ w.heap.size + 1; omega) (by rw [World.putObj_size]; exact hlt)).trans hrb
        have hd3 : W3.heap[D]? = some (.deferred (some [])) := (hk D (Nat.le_refl _) (by rw [World.putObj_size]; exact hltD)).trans hdb
        exact ⟨_, _, run_endRound (some .ret) hr3, .inr ⟨rfl, .ret, hIx _ _ _ _ _ (by show w.heap.size ≤ w.heap.size + 1; omega) (blk_lt' hr3) hi3, World.putObj_heap_same (blk_lt' hr3), (World.putObj_heap_other hDR).trans hd3⟩⟩
      | exit id => exact hp.elim
      | goto t => exact hp.elim
      | panic ch => exact hp.elim
      | outgrown => exact hp.elim
    · -- behind the iterator
      rintro e W2 ⟨⟨v, rfl⟩, (⟨p, hS, hi, hr, hd⟩ | ⟨p, hS, c, hi, hr, hd⟩)⟩
      · exact ⟨none, _, run_endLoop hr (by intro e; cases e), hdone D p _ (Nat.le_refl _) hS ((hI p).put _ _ _ (by show w.heap.size ≤ w.heap.size + 1; omega) (blk_lt' hr) hi) ((World.putObj_heap_other hDR).trans hd)⟩
      · exact ⟨some c, _, run_endLoop hr (by intro e; cases e), hstop D c p _ (Nat.le_refl _) hS (hIx _ _ _ _ _ (by show w.heap.size ≤ w.heap.size + 1; omega) (blk_lt' hr) hi) ((World.putObj_heap_other hDR).trans hd)⟩
def noDefer (ops : Array Oper) : Bool := ops.toList.all fun o => match o.op with | .defer _ => false | _ => true
theorem noDefer_spec {ops : Array Oper} (h : noDefer ops = true) {i : Nat} {o : Oper} (ho : ops[i]? = some o) : ∀ c, o.op ≠ .defer c := by
  intro c hc
  have hm : o ∈ ops.toList := by
    rw [← Array.getElem?_toList] at ho
    exact List.mem_of_getElem? ho
  have := List.all_eq_true.1 h o hm
  rw [hc] at this
  cases this
theorem upon_round {P : Program} {o : Oper} {a : Act} {next next' : Act → World → Prop} {Q : Exit → Act → World → Prop} {r : Result Next} {l n : Nat} (hn : ∀ a w, next a w → next' a w) (h : Oper.upon P o a next Q r) : Oper.uponIn (Fence.wide.inRound l) n P o a next' Q r := by
  cases r with
  | ok v w' =>
    cases v with
    | value v => exact hn _ _ h
    | skip => exact hn _ _ h
    | defer d => exact hn _ _ h
    | enter f args =>
      refine ⟨(fun h0 => (by cases h0)), CallsIn.inRound l (callsIn_wide.2 (Calls.mono h fun e w hh => ?_))⟩
      cases e with
      | returned v => exact hn _ _ hh
      | panicked c => exact hh
      | outgrown => exact hh
    | row row args =>
      refine ⟨(fun h0 => (by cases h0)), fun c cs _ => ?_⟩
      obtain ⟨v, w2, hr, hs⟩ := h c cs
      exact ⟨v, w2, hn _ _ hr, stepsIn_wide.2 hs⟩
    | _ => exact h.elim
  | halt s w' =>
    cases s <;> first | exact h | exact h.elim
theorem wpAnyIn_round {P : Program} {md : Region.Mode} {ops : Array Oper} {Q : Exit → Act → World → Prop} {l n : Nat} (hno : ¬ LetsOut Q) (hops : noDefer ops = true) :
    ∀ (fuel : Nat) (listed : Array Bool) (a : Act) (w : World), wpAny P md ops Q fuel listed a w → wpAnyIn (Fence.wide.inRound l) n P md ops Q fuel listed a w
  | 0, _, _, _, h => h
  | fuel + 1, listed, a, w, h => ⟨h.1, fun i hi => by
      have h2 := h.2 i hi
      unfold wpOp at h2
      unfold wpOpIn
      cases ho : ops[i]? with
      | none => rw [ho] at h2; exact wpAnyIn_round hno hops fuel _ _ _ h2
      | some o =>
        rw [ho] at h2
        dsimp only at h2 ⊢
        by_cases hw : Region.wanted o (yielded ops a.tmps) = true
        · rw [if_pos hw] at h2 ⊢
          rcases h2 with h2 | h2
          · refine ⟨fun _ _ => trivial, ?_⟩
            rw [Oper.semAt_eq _ _ _ (noDefer_spec hops ho)]
            exact upon_round (fun a' w' h' => wpAnyIn_round hno hops fuel _ a' w' h') h2
          · exact absurd h2.2 hno
        · rw [if_neg hw] at h2 ⊢
          exact ⟨fun _ _ => trivial, wpAnyIn_round hno hops fuel _ _ _ h2⟩⟩
theorem startR_ {P : Program} {ops : Array Oper} {Q : Exit → Act → World → Prop} {S : World → Prop} {ds : List Nat} {id n rl m : Nat} {a : Act} {w : World} (hno : ¬ LetsOut Q) (hops : noDefer ops = true) (l : Array Bool) (hm : P.follows .mixedOrders = true) (hn : ops.size = n) (hl : Array.replicate n false = l) (hS : S w.drew)
    (h : S w.drew → wpAnyLast P .any ops Q S ds n l a w.drew) : (Code.region id ops true).wpIn (Fence.wide.inRound rl) m P Q a w := by
  subst hn
  subst hl
  exact wpIn_region_any hm (wpAnyIn_round hno hops _ _ _ _ (wpAny_of_last _ _ _ _ (h hS)))
/-- A type and what it declares above it, at most k of them. -/
def chain (l : List S62) : Nat → Int → List Int
  | 0, _ => []
  | k + 1, x => x :: (match (tyAt l x).f1 with | [] => [] | y :: _ => chain l k y)
theorem chain_end {l : List S62} {x : Int} (k : Nat) (h : (tyAt l x).f1 = []) : chain l (k + 1) x = [x] := by simp [chain, h]
theorem chain_on {l : List S62} {x y : Int} {t : List Int} (k : Nat) (h : (tyAt l x).f1 = y :: t) : chain l (k + 1) x = x :: chain l k y := by simp [chain, h]
/-- In closed groups a type declares types of the list above it. -/
theorem tyAt_supers {l : List S62} (hc : Clo l) {x : Int} (h0 : 0 ≤ x) (h1 : x < ((flat l).length : Int)) : ∀ y ∈ (tyAt l x).f1, 0 ≤ y ∧ y < ((flat l).length : Int) := by
  obtain ⟨j, r, p, hj, hr, he, hp⟩ := place_of l l.length x.toNat (Nat.le_refl _) (by rw [List.take_length, ← flat_length]; omega)
  have h2 : (flat l)[x.toNat]? = r.f0[p]? := by rw [he]; exact flat_get hr hp
  have h3 : tyAt l x = r.f0[p] := by
    unfold tyAt rd_T53
    rw [List.getD_eq_getElem?_getD, h2, List.getElem?_eq_getElem hp]
    rfl
  have h4 := (typeOk_iff _ _).1 (hc j r hr (r.f0[p]) (List.getElem_mem hp))
  intro y hy
  rw [h3] at hy
  refine ⟨h4.1 y hy, ?_⟩
  have h5 := (h4.2.q1 y hy).2
  have h6 := tcount_mono l (j + 1) l.length (by omega)
  rw [List.take_length] at h6
  rw [flat_length]
  omega
set_option maxRecDepth 100000 in
set_option maxHeartbeats 8000000 in
theorem above_seq (l : List S62) (hc : Clo l) (cb pb nb : Nat) (x0 : Int) (h0 : 0 ≤ x0) (h1 : x0 < ((flat l).length : Int)) (hll : (flat l).length ≤ 1048576) (n : Nat) :
    SeqCell n Tryd.prog 75 #[.pointer (some ⟨pb, 0, none⟩), .pointer (some ⟨nb, 0, none⟩)] nb (.cells #[.int .i64 x0] 3 (0, 0)) (fun W => W.heap[pb]? = some (.cells #[.pointer (some ⟨cb, 0, none⟩)] 99 (0, 0)) ∧ Ctx l cb W) (fun x => 0 ≤ x ∧ x < ((flat l).length : Int))
      (fun p => p = chain l ((flat l).length + 1) x0) (fun p => ∃ t, p ++ t = chain l ((flat l).length + 1) x0) := by
  intro rl J Jx W hset hdrew hgood hY hJ hX
  refine callsIn_of_wp Tryd.func75 rfl trivial ?_ rfl
  simp only [Tryd.ntmps75, List.size_toArray, List.length_cons, List.length_nil, Nat.reduceAdd, Nat.reduceSub, Array.replicate_succ, Array.replicate_zero, List.push_toArray, List.append_toArray, List.nil_append, List.cons_append, Array.append_empty]
  have HSET := Aside0.mk hset
  have HDREW := Aside0.mk hdrew
  have HGOOD := Aside0.mk hgood
  have HY := Aside0.mk hY
  have HC := Aside0.mk hc
  have HJ := Aside0.mk hJ
  have HX := Aside0.mk hX
  obtain ⟨gp, gc⟩ := hgood _ _ hJ
  obtain ⟨L, Ai, ci, Aa, ca, I, e1, e2, e3, e4, e5, e6⟩ := gc.ex
  have x1 : W.cell? ⟨pb, 0, none⟩ = some (.pointer (some ⟨cb, 0, none⟩)) := (blk_cell gp 0).trans rfl
  have x2 : W.cell? ⟨cb, 2, none⟩ = some (.slice Aa (flat l).length ca) := (blk_cell e1 2).trans rfl
  have hwl : wrap64 (((flat l).length : Int) + 1) = ((flat l).length : Int) + 1 := by unfold wrap64; omega
  clear hset hdrew hgood hY hJ hX gp gc e1 e2 e3 e4 e5 e6 hc
  gi_wp2
  obtain ⟨m, hm⟩ : ∃ m, m = (flat l).length := ⟨_, rfl⟩
  have HM := Aside0.mk hm
  gi_loopw [11] (fun i W => ∃ (k : Nat) (x : Int) (p : List Int), i = .int .i64 k ∧ k ≤ m + 1 ∧ (0 ≤ x ∧ x < (m : Int)) ∧ J p W ∧ W.heap[nb]? = some (.cells #[.int .i64 x] 3 (0, 0)) ∧ p ++ chain l (m + 1 - k) x = chain l (m + 1) x0) (fun i _ => m + 1 - (intOf i).toNat)
  case atStart => exact ⟨0, x0, [], rfl, Nat.zero_le _, ⟨h0, by omega⟩, HJ.out, HX.out, rfl⟩
  case round =>
    rw [← hm]
    have hm' : m ≤ 1048576 := by omega
    clear HJ HX x1 x2 hm
    obtain ⟨k, x, p, rfl, hk, ⟨hx0, hx1⟩, hJ, hX, hch⟩ := hrel
    have HJ := Aside0.mk hJ
    have HX := Aside0.mk hX
    have HCH := Aside0.mk hch
    have hnx : wr.cell? ⟨nb, 0, none⟩ = some (.int .i64 x) := (blk_cell hX 0).trans rfl
    clear hch hX
    by_cases hlk : k < m + 1
    · have kl : (k : Int) < (m : Int) + 1 := by omega
      have hwk : wrap64 ((k : Int) + 1) = (k : Int) + 1 := by unfold wrap64; omega
      obtain ⟨fn, tmps, assign, body, hy, hR⟩ := HY.out p x wr hJ ⟨hx0, by rw [← HM.out]; exact hx1⟩
      clear hJ
      gi_wp2
      refine ⟨fun h => (by cases h), hR.mono ?_⟩
      rintro e w3 (⟨rfl, hJ3, hk3⟩ | ⟨rfl, hJx3⟩)
      · obtain ⟨gp, gc⟩ := HGOOD.out _ _ hJ3
        obtain ⟨L, Ai, ci, Aa, ca, I, e1, e2, e3, e4, e5, e6⟩ := gc.ex
        have X3 := Aside0.mk (hk3.trans HX.out)
        have J3 := Aside0.mk hJ3
        have P3 := Aside0.mk gp
        have C3 := Aside0.mk e1
        obtain ⟨ae, A1', c1, A3, c3, A4, c4, A5, c5, ea, d0, d1, d2, d3, d4, d5, m1, r1, m3, r3, m4, r4, m5, r5⟩ := at_T53 e5 x hx0 (by rw [← HM.out]; exact hx1)
        subst ea
        have D1 := Aside0.mk d1
        have S1 := Aside0.mk r1
        have T1 : Aside0 (rd_T53 (flat l) x = tyAt l x) := ⟨rfl⟩
        rw [T1.out] at D1 S1
        have SUP := Aside0.mk (tyAt_supers HC.out hx0 (by rw [← HM.out]; exact hx1))
        clear hJ3 hk3 gp gc e1 e2 e3 e4 e5 e6 d0 d1 d2 d3 d4 d5 m1 r1 m3 r3 m4 r4 m5 r5 hy hR hnx T1
        rw [← HM.out] at C3
        obtain ⟨ss, hss⟩ : ∃ ss, ss = (tyAt l x).f1 := ⟨_, rfl⟩
        rw [← hss] at D1 S1 SUP
        have HSS := Aside0.mk hss
        clear hss
        have hxm : x < (m : Int) := hx1
        gi_wp2
        refine wpIn_wide.2 ?_
        refine start_ (n := 9) (S := fun w' => w'.cell? ⟨pb, 0, none⟩ = some (.pointer (some ⟨cb, 0, none⟩)) ∧ w'.cell? ⟨cb, 2, none⟩ = some (.slice (some ae) m ca) ∧ w'.cell? ⟨nb, 0, none⟩ = some (.int .i64 x) ∧ w'.cell? ⟨(ae.add (x.toNat * 6)).block, (ae.add (x.toNat * 6)).off + 1, none⟩ = some (.slice A1' ss.length c1)) (ds := []) #[false, false, false, false, false, false, false, false, false] (by kernel_rfl) rfl rfl ⟨(blk_cell P3.out 0).trans rfl, (blk_cell C3.out 2).trans rfl, (blk_cell X3.out 0).trans rfl, D1.out⟩ (fun hHeld => ?_)
        refine take_ (i := 0) (N := some 17) (v := ?_) (a' := ?_) #[true, false, false, false, false, false, false, false, false] rfl rfl (by kernel_rfl) (fun _ _ _ h => h) (Or.inl ⟨by rfl, ?_⟩) hHeld ?_ ?_
        rotate_left
        · rintro w' ⟨s0, s1, s2, s3⟩
          go_simp
          with_reducible rfl
        rotate_left
        · simp only [Act.put, List.setIfInBounds_toArray, List.set_cons_zero, List.set_cons_succ, i64_w, i32_w]
          rfl
        refine pure_ (i := 1) (N := some 18) (v := ?_) (a' := ?_) #[true, true, false, false, false, false, false, false, false] rfl rfl (by kernel_rfl) (fun _ _ _ h => h) (Or.inl ⟨by rfl, ?_⟩) ?_ ?_
        rotate_left
        · intro w'
          go_simp
          with_reducible rfl
        rotate_left
        · simp only [Act.put, List.setIfInBounds_toArray, List.set_cons_zero, List.set_cons_succ, i64_w, i32_w]
          rfl
        refine pure_ (i := 2) (N := some 19) (v := ?_) (a' := ?_) #[true, true, true, false, false, false, false, false, false] rfl rfl (by kernel_rfl) (fun _ _ _ h => h) (Or.inl ⟨by rfl, ?_⟩) ?_ ?_
        rotate_left
        · intro w'
          go_simp
          with_reducible rfl
        rotate_left
        · simp only [Act.put, List.setIfInBounds_toArray, List.set_cons_zero, List.set_cons_succ, i64_w, i32_w]
          rfl
        refine take_ (i := 3) (N := some 20) (v := ?_) (a' := ?_) #[true, true, true, true, false, false, false, false, false] rfl rfl (by kernel_rfl) (fun _ _ _ h => h) (Or.inl ⟨by rfl, ?_⟩) hHeld ?_ ?_
        rotate_left
        · rintro w' ⟨s0, s1, s2, s3⟩
          go_simp
          with_reducible rfl
        rotate_left
        · simp only [Act.put, List.setIfInBounds_toArray, List.set_cons_zero, List.set_cons_succ, i64_w, i32_w]
          rfl
        refine take_ (i := 4) (N := some 21) (v := ?_) (a' := ?_) #[true, true, true, true, true, false, false, false, false] rfl rfl (by kernel_rfl) (fun _ _ _ h => h) (Or.inl ⟨by rfl, ?_⟩) hHeld ?_ ?_
        rotate_left
        · rintro w' ⟨s0, s1, s2, s3⟩
          go_simp
          with_reducible rfl
        rotate_left
        · simp only [Act.put, List.setIfInBounds_toArray, List.set_cons_zero, List.set_cons_succ, i64_w, i32_w]
          rfl
        refine pure_ (i := 5) (N := some 22) (v := ?_) (a' := ?_) #[true, true, true, true, true, true, false, false, false] rfl rfl (by kernel_rfl) (fun _ _ _ h => h) (Or.inl ⟨by rfl, ?_⟩) ?_ ?_
        rotate_left
        · intro w'
          go_simp
          with_reducible rfl
        rotate_left
        · simp only [Act.put, List.setIfInBounds_toArray, List.set_cons_zero, List.set_cons_succ, i64_w, i32_w]
          rfl
        refine pure_ (i := 6) (N := some 23) (v := ?_) (a' := ?_) #[true, true, true, true, true, true, true, false, false] rfl rfl (by kernel_rfl) (fun _ _ _ h => h) (Or.inl ⟨by rfl, ?_⟩) ?_ ?_
        rotate_left
        · intro w'
          go_simp
          with_reducible rfl
        rotate_left
        · simp only [Act.put, List.setIfInBounds_toArray, List.set_cons_zero, List.set_cons_succ, i64_w, i32_w]
          rfl
        refine take_ (i := 7) (N := some 24) (v := ?_) (a' := ?_) #[true, true, true, true, true, true, true, true, false] rfl rfl (by kernel_rfl) (fun _ _ _ h => h) (Or.inl ⟨by rfl, ?_⟩) hHeld ?_ ?_
        rotate_left
        · rintro w' ⟨s0, s1, s2, s3⟩
          go_simp
          with_reducible rfl
        rotate_left
        · simp only [Act.put, List.setIfInBounds_toArray, List.set_cons_zero, List.set_cons_succ, i64_w, i32_w]
          rfl
        refine pure_ (i := 8) (N := some 4) (v := ?_) (a' := ?_) #[true, true, true, true, true, true, true, true, true] rfl rfl (by kernel_rfl) (fun _ _ _ h => h) (Or.inl ⟨by rfl, ?_⟩) ?_ ?_
        rotate_left
        · intro w'
          go_simp
          with_reducible rfl
        rotate_left
        · simp only [Act.put, List.setIfInBounds_toArray, List.set_cons_zero, List.set_cons_succ, i64_w, i32_w]
          rfl
        refine done_ (by kernel_rfl) ?_
        
        have J4 := Aside0.mk (HDREW.out _ _ J3.out)
        have X4 : Aside0 (w3.drew.heap[nb]? = some (.cells #[.int .i64 x] 3 (0, 0))) := ⟨X3.out⟩
        have S4 : Aside0 ((Kd.int .i64).C w3.drew A1' ss.length ss) := ⟨Kd.C_drew S1.out⟩
        generalize w3.drew = w4 at J4 X4 S4 ⊢
        have hn4 : w4.cell? ⟨nb, 0, none⟩ = some (.int .i64 x) := (blk_cell X4.out 0).trans rfl
        have hf4 : w4.frozen? ⟨nb, 0, none⟩ = false := blk_frozen X4.out 0
        have hk1 : m + 1 - k = (m - k) + 1 := by omega
        have hch := HCH.out
        rw [hk1] at hch
        rcases hz : ss with _ | ⟨y, t⟩
        · subst hz
          rw [chain_end _ HSS.out.symm] at hch
          have HCE := Aside0.mk hch
          clear hch hn4 hf4
          gi_wp2
          refine bodyPost_ret (results_none rfl _ _ _) rfl ?_
          exact ⟨⟨_, rfl⟩, .inl ⟨_, HM.out ▸ HCE.out, J4.out⟩⟩
        · subst hz
          rw [chain_on _ HSS.out.symm] at hch
          have HCE := Aside0.mk hch
          clear hch
          obtain ⟨ai, z, eA, hz, hcz⟩ := at_int' S4.out 0 (by simp)
          subst eA
          obtain rfl : y = z := by simpa using hz
          have hy01 := SUP.out y (by simp)
          rw [← HM.out] at hy01
          have X5 := Aside0.mk (blk_set X4.out 0 (.int .i64 y))
          have J5 := Aside0.mk (HSET.out _ _ (.int .i64 y) J4.out)
          have hcz' : w4.cell? ai = some (.int .i64 y) := by have e_ : ai.add 0 = ai := (by simp [Addr.add]); rw [e_] at hcz; exact hcz
          have h0l : (0 : Int) < ((y :: t).length : Int) := by simp
          gi_wp2
          go_roundw
          case rel => exact ⟨k + 1, y, p ++ [x], by go_num, by omega, hy01, J5.out, by simpa using X5.out, by have e_ : m + 1 - (k + 1) = m - k := (by omega); rw [e_, List.append_assoc]; exact HCE.out⟩
          case measure => simp [intOf]; omega
      · gi_wp2
        refine bodyPost_ret (results_none rfl _ _ _) rfl ?_
        have hch := HCH.out
        have hk1 : m + 1 - k = (m - k) + 1 := by omega
        rw [hk1] at hch
        refine ⟨⟨_, rfl⟩, .inr ⟨p ++ [x], ?_, hJx3⟩⟩
        rw [← HM.out]
        refine ⟨(match (tyAt l x).f1 with | [] => [] | y :: _ => chain l (m - k) y), ?_⟩
        rw [List.append_assoc]
        exact hch
    · obtain rfl : k = m + 1 := by omega
      have hch := HCH.out
      rw [Nat.sub_self] at hch
      have HCE : Aside0 (p = chain l (m + 1) x0) := ⟨by simpa [chain] using hch⟩
      clear hch hk hlk hnx
      gi_wp2
      go_end0
      exact ⟨⟨_, rfl⟩, .inl ⟨p, HM.out ▸ HCE.out, HJ.out⟩⟩
attribute [local go_sem] Oper.semAt_some
/-- Does the heap type a match b, in a closed list? -/
noncomputable def heapM (l : List S62) (a b : Int) : Bool :=
  if isM l a && isM l b then
    if a < 0 then
      if b < 0 then absM a b else decide (a = -10) && decide (kindOf l b ≠ -1) || decide (a = -2) && decide (kindOf l b = -1)
    else if b < 0 then absM (kindOf l a) b
    else (chain l ((flat l).length + 1) a).any fun x => (oneM l l (x.toNat : Int) (b.toNat : Int)).1
  else false
theorem results_cell1 {fn : Func} {p : Tmp} {ty : TypeId} (h : fn.results = #[.cell p ty]) (tmps : Array Value) (P : Program) (w : World) :
    (results fn tmps).run P w = ((asAddr (tmps.getD p undef)).run P w).andThen fun a w₁ => (loadVar ty a).run P w₁ := by
  simp only [results, h]
  simp [Sem.run_bind, Result.andThen]
theorem heapM_no {l : List S62} {a b : Int} (h : ¬ (isM l a = true ∧ isM l b = true)) : heapM l a b = false := by
  unfold heapM
  rw [if_neg]
  simpa using h
theorem isM_bounds {l : List S62} {h : Int} (hh : isM l h = true) : -12 ≤ h ∧ h < ((flat l).length : Int) := by simpa [isM] using hh
set_option maxRecDepth 100000 in
theorem sabove_calls (cb : Nat) (x : Int) (w : World) : Calls Tryd.prog 59 #[.pointer (some ⟨cb, 0, none⟩), .int .i64 x] w fun e w' => e = .returned (.func (.func 75) #[] #[.pointer (some ⟨w.heap.size, 0, none⟩), .pointer (some ⟨w.heap.size + 1, 0, none⟩)]) ∧ w' = (w.alloc (.cells #[.pointer (some ⟨cb, 0, none⟩)] 99)).alloc (.cells #[.int .i64 x] 3) := by
  go_enter Tryd.func59, Tryd.ntmps59
  go_wp2_with fail
  go_ret
  exact ⟨rfl, rfl⟩
theorem heapM_rows {l : List S62} {a b : Int} (ha : isM l a = true) (hb : isM l b = true) (a0 : 0 ≤ a) (b0 : 0 ≤ b) : heapM l a b = true ↔ ∃ x ∈ chain l ((flat l).length + 1) a, SameT l x.toNat b.toNat := by
  unfold heapM
  rw [if_pos (by rw [ha, hb]; rfl), if_neg (by omega), if_neg (by omega)]
  rw [List.any_eq_true]
  exact Iff.rfl
/-- The boxes of context.heap. -/
structure HB (w : World) (cb : Nat) (b : Int) (v : Bool) (W : World) : Prop where
  b0 : W.heap[w.heap.size]? = some (.cells #[.pointer (some ⟨cb, 0, none⟩)] 99 (0, 0))
  b1 : W.heap[w.heap.size + 1]? = some (.cells #[.int .i64 b] 3 (0, 0))
  b2 : W.heap[w.heap.size + 1 + 1]? = some (.cells #[.bool v] 4 (0, 0))
  b3 : W.heap[w.heap.size + 1 + 1 + 1]? = some (.cells #[.pointer (some ⟨cb, 0, none⟩)] 99 (0, 0))
  bel : Below w.heap.size w W
theorem HB.put {w W : World} {cb : Nat} {b : Int} {v : Bool} (h : HB w cb b v W) (l : Nat) (o : Obj) (hl : w.heap.size + 1 + 1 + 1 < l) (hlt : l < W.heap.size) : HB w cb b v (W.putObj l o) :=
  ⟨(World.putObj_heap_other (by omega)).trans h.b0, (World.putObj_heap_other (by omega)).trans h.b1, (World.putObj_heap_other (by omega)).trans h.b2, (World.putObj_heap_other (by omega)).trans h.b3,
   h.bel.grown (grownBy_putObj' W l o) h.bel.size (fun k e => by cases e; omega)⟩
theorem HB.set {w W : World} {cb : Nat} {b : Int} {v : Bool} (h : HB w cb b v W) (l : Nat) (u : Value) (hl : w.heap.size + 1 + 1 + 1 < l) : HB w cb b v (W.setCell ⟨l, 0, none⟩ u) :=
  ⟨blk_far h.b0 (show w.heap.size ≠ l by omega) u, blk_far h.b1 (show w.heap.size + 1 ≠ l by omega) u, blk_far h.b2 (show w.heap.size + 1 + 1 ≠ l by omega) u, blk_far h.b3 (show w.heap.size + 1 + 1 + 1 ≠ l by omega) u, h.bel.trans ((Below.refl _ _).setCell (p := ⟨l, 0, none⟩) (by show w.heap.size ≤ l; omega) u)⟩
theorem HB.store {w W : World} {cb : Nat} {b : Int} {v : Bool} (h : HB w cb b v W) (u : Bool) : HB w cb b u (W.setCell ⟨w.heap.size + 1 + 1, 0, none⟩ (.bool u)) :=
  ⟨blk_far h.b0 (show w.heap.size ≠ w.heap.size + 1 + 1 by omega) _, blk_far h.b1 (show w.heap.size + 1 ≠ w.heap.size + 1 + 1 by omega) _, by have := blk_set h.b2 0 (.bool u); simpa using this, blk_far h.b3 (show w.heap.size + 1 + 1 + 1 ≠ w.heap.size + 1 + 1 by omega) _, h.bel.trans ((Below.refl _ _).setCell (p := ⟨w.heap.size + 1 + 1, 0, none⟩) (by show w.heap.size ≤ w.heap.size + 1 + 1; omega) _)⟩
theorem HB.stays {w : World} {cb : Nat} {b : Int} {v : Bool} {nb B : Nat} (hn : w.heap.size + 1 + 1 + 1 < nb) (hB : w.heap.size + 1 + 1 + 1 < B) (q : Prop) : Stays nb B (fun W => HB w cb b v W ∧ q) where
  put := fun W l o hl hlt h => ⟨h.1.put l o (by omega) hlt, h.2⟩
  set := fun W u h => ⟨h.1.set nb u hn, h.2⟩
  drew := fun W h => ⟨⟨h.1.b0, h.1.b1, h.1.b2, h.1.b3, h.1.bel.drew⟩, h.2⟩
  alloc := fun W o h => ⟨⟨blk_alloc h.1.b0 o, blk_alloc h.1.b1 o, blk_alloc h.1.b2 o, blk_alloc h.1.b3 o, h.1.bel.alloc h.1.bel.size o⟩, h.2⟩
set_option maxRecDepth 100000 in
set_option maxHeartbeats 8000000 in
theorem sheap_calls (l : List S62) (hc : Clo l) (cb : Nat) (a b : Int) (w : World) (hctx : Ctx l cb w) (hll : (flat l).length ≤ 1048576) :
    Calls Tryd.prog 54 #[.pointer (some ⟨cb, 0, none⟩), .int .i64 a, .int .i64 b] w fun e w' => e = .returned (.bool (heapM l a b)) ∧ Below w.heap.size w w' := by
  have ba : Below w.heap.size w (((w.alloc (.cells #[.pointer (some ⟨cb, 0, none⟩)] 99)).alloc (.cells #[.int .i64 b] 3)).alloc (.cells #[.bool false] 4)) := (((Below.refl _ _).alloc (Nat.le_refl _) _).alloc (by simp) _).alloc (by simp; omega) _
  have C0 := Aside0.mk (hctx.below ba)
  have B0 := Aside0.mk ba
  have HC := Aside0.mk hc
  have HLL := Aside0.mk hll
  have x0 : (((w.alloc (.cells #[.pointer (some ⟨cb, 0, none⟩)] 99)).alloc (.cells #[.int .i64 b] 3)).alloc (.cells #[.bool false] 4)).heap[w.heap.size]? = some (.cells #[.pointer (some ⟨cb, 0, none⟩)] 99 (0, 0)) := blk_alloc (blk_alloc (blk_new w _) _) _
  have x1 : (((w.alloc (.cells #[.pointer (some ⟨cb, 0, none⟩)] 99)).alloc (.cells #[.int .i64 b] 3)).alloc (.cells #[.bool false] 4)).heap[w.heap.size + 1]? = some (.cells #[.int .i64 b] 3 (0, 0)) := by have h := blk_alloc (blk_new (w.alloc (.cells #[.pointer (some ⟨cb, 0, none⟩)] 99)) (.cells #[.int .i64 b] 3)) (.cells #[.bool false] 4); rw [World.size_alloc] at h; exact h
  have x2 : (((w.alloc (.cells #[.pointer (some ⟨cb, 0, none⟩)] 99)).alloc (.cells #[.int .i64 b] 3)).alloc (.cells #[.bool false] 4)).heap[w.heap.size + 1 + 1]? = some (.cells #[.bool false] 4 (0, 0)) := by have h := blk_new ((w.alloc (.cells #[.pointer (some ⟨cb, 0, none⟩)] 99)).alloc (.cells #[.int .i64 b] 3)) (.cells #[.bool false] 4); rw [World.size_alloc, World.size_alloc] at h; exact h
  have hout : ∀ v : Bool, Below w.heap.size w (((w.alloc (.cells #[.pointer (some ⟨cb, 0, none⟩)] 99)).alloc (.cells #[.int .i64 b] 3)).alloc (.cells #[.bool v] 4)) := fun v => (((Below.refl _ _).alloc (Nat.le_refl _) _).alloc (by simp) _).alloc (by simp; omega) _
  have HOUT := Aside0.mk hout
  have CW := Aside0.mk hctx
  clear ba hctx hc hll hout
  by_cases ha : isM l a = true
  · by_cases hb : isM l b = true
    · obtain ⟨ha0, ha1⟩ := isM_bounds ha
      obtain ⟨hb0, hb1⟩ := isM_bounds hb
      by_cases na : a < 0
      · by_cases nb : b < 0
        · have EM : Aside0 (heapM l a b = absM a b) := ⟨by unfold heapM; rw [if_pos (by rw [ha, hb]; rfl), if_pos na, if_pos nb]⟩
          have K1 := sis_calls l cb a _ C0.out
          have K2 := sis_calls l cb b _ C0.out
          rw [ha] at K1
          rw [hb] at K2
          have K3 := sabstract_calls a b (((w.alloc (.cells #[.pointer (some ⟨cb, 0, none⟩)] 99)).alloc (.cells #[.int .i64 b] 3)).alloc (.cells #[.bool false] 4)) ha0 na hb0 nb
          rw [← EM.out] at K3
          clear ha hb x0 x1 x2
          go_enter Tryd.func54, Tryd.ntmps54
          go_wp2_with (first | ((with_reducible refine K1.mono ?_); rintro e w1 ⟨rfl, rfl⟩) | ((with_reducible refine K2.mono ?_); rintro e w1 ⟨rfl, rfl⟩) | ((with_reducible refine K3.mono ?_); rintro e w1 ⟨rfl, rfl⟩))
          refine bodyPost_ret (v := .bool (heapM l a b)) ?_ rfl ?_
          · rw [results_cell1 rfl]; go_simp
          · exact ⟨rfl, HOUT.out _⟩
        · have EM : Aside0 (heapM l a b = (decide (a = -10) && decide (kindOf l b ≠ -1) || decide (a = -2) && decide (kindOf l b = -1))) := ⟨by unfold heapM; rw [if_pos (by rw [ha, hb]; rfl), if_pos na, if_neg nb]⟩
          have K1 := sis_calls l cb a _ C0.out
          have K2 := sis_calls l cb b _ C0.out
          rw [ha] at K1
          rw [hb] at K2
          have K3 := skind_calls l cb b _ C0.out (by omega) hb1
          have hk := kindM_in (tyAt l b).f2.f0
          obtain ⟨kb, hkb⟩ : ∃ kb, kb = kindOf l b := ⟨_, rfl⟩
          rw [← hkb] at K3 EM
          replace hk : kb = -1 ∨ kb = -8 ∨ kb = -9 := by rw [hkb]; exact hk
          clear ha hb x0 x1 x2 hkb
          by_cases a10 : a = -10
          · subst a10
            rcases hk with rfl | rfl | rfl
            all_goals
              go_enter Tryd.func54, Tryd.ntmps54
              go_wp2_with (first | ((with_reducible refine K1.mono ?_); rintro e w1 ⟨rfl, rfl⟩) | ((with_reducible refine K2.mono ?_); rintro e w1 ⟨rfl, rfl⟩) | ((with_reducible refine K3.mono ?_); rintro e w1 ⟨rfl, rfl⟩))
              refine bodyPost_ret (v := .bool (heapM l (-10) b)) ?_ rfl ?_
              · rw [EM.out, results_cell1 rfl]; go_simp
              · exact ⟨rfl, HOUT.out _⟩
          · have e10 : (a == -10) = false := by simp [a10]
            by_cases a2 : a = -2
            · subst a2
              rcases hk with rfl | rfl | rfl
              all_goals
                go_enter Tryd.func54, Tryd.ntmps54
                go_wp2_with (first | ((with_reducible refine K1.mono ?_); rintro e w1 ⟨rfl, rfl⟩) | ((with_reducible refine K2.mono ?_); rintro e w1 ⟨rfl, rfl⟩) | ((with_reducible refine K3.mono ?_); rintro e w1 ⟨rfl, rfl⟩))
                refine bodyPost_ret (v := .bool (heapM l (-2) b)) ?_ rfl ?_
                · rw [EM.out, results_cell1 rfl]; go_simp
                · exact ⟨rfl, HOUT.out _⟩
            · have e2 : (a == -2) = false := by simp [a2]
              have EF : Aside0 (heapM l a b = false) := ⟨by rw [EM.out]; simp [a10, a2]⟩
              go_enter Tryd.func54, Tryd.ntmps54
              go_wp2_with (first | ((with_reducible refine K1.mono ?_); rintro e w1 ⟨rfl, rfl⟩) | ((with_reducible refine K2.mono ?_); rintro e w1 ⟨rfl, rfl⟩) | ((with_reducible refine K3.mono ?_); rintro e w1 ⟨rfl, rfl⟩))
              refine bodyPost_ret (v := .bool (heapM l a b)) ?_ rfl ?_
              · rw [EF.out, results_cell1 rfl]; go_simp
              · exact ⟨rfl, HOUT.out _⟩
      · by_cases nb : b < 0
        · have EM : Aside0 (heapM l a b = absM (kindOf l a) b) := ⟨by unfold heapM; rw [if_pos (by rw [ha, hb]; rfl), if_neg na, if_pos nb]⟩
          have K1 := sis_calls l cb a _ C0.out
          have K2 := sis_calls l cb b _ C0.out
          rw [ha] at K1
          rw [hb] at K2
          have hkin := kindM_in (tyAt l a).f2.f0
          have hkin' : kindOf l a = -1 ∨ kindOf l a = -8 ∨ kindOf l a = -9 := hkin
          have HKI := Aside0.mk hkin'
          clear hkin hkin'
          go_enter Tryd.func54, Tryd.ntmps54
          go_wp2_with (first | ((with_reducible refine K1.mono ?_); rintro e w1 ⟨rfl, rfl⟩) | ((with_reducible refine K2.mono ?_); rintro e w1 ⟨rfl, rfl⟩))
          have HA : Aside0 (0 ≤ a ∧ a < ((flat l).length : Int)) := ⟨by omega, ha1⟩
          have HB : Aside0 (-12 ≤ b ∧ b < 0) := ⟨hb0, nb⟩
          have HK0 : Aside0 (-12 ≤ kindOf l a ∧ kindOf l a < 0) := ⟨by rcases HKI.out with h | h | h <;> rw [h] <;> decide⟩
          have Y0 : (World.heap ((((w.alloc (.cells #[.pointer (some ⟨cb, 0, none⟩)] 99)).alloc (.cells #[.int .i64 b] 3)).alloc (.cells #[.bool false] 4)).drew))[w.heap.size]? = some (.cells #[.pointer (some ⟨cb, 0, none⟩)] 99 (0, 0)) := x0
          have Y1 : (World.heap ((((w.alloc (.cells #[.pointer (some ⟨cb, 0, none⟩)] 99)).alloc (.cells #[.int .i64 b] 3)).alloc (.cells #[.bool false] 4)).drew))[w.heap.size + 1]? = some (.cells #[.int .i64 b] 3 (0, 0)) := x1
          have Y2 : (World.heap ((((w.alloc (.cells #[.pointer (some ⟨cb, 0, none⟩)] 99)).alloc (.cells #[.int .i64 b] 3)).alloc (.cells #[.bool false] 4)).drew))[w.heap.size + 1 + 1]? = some (.cells #[.bool false] 4 (0, 0)) := x2
          have C5 : Aside0 (Ctx l cb ((((w.alloc (.cells #[.pointer (some ⟨cb, 0, none⟩)] 99)).alloc (.cells #[.int .i64 b] 3)).alloc (.cells #[.bool false] 4)).drew)) := ⟨C0.out.below ⟨rfl, rfl, rfl, Nat.le_refl _, fun _ _ => rfl⟩⟩
          have B5 : Aside0 (Below w.heap.size w ((((w.alloc (.cells #[.pointer (some ⟨cb, 0, none⟩)] 99)).alloc (.cells #[.int .i64 b] 3)).alloc (.cells #[.bool false] 4)).drew)) := ⟨B0.out.drew⟩
          refine start_ (n := 6) (S := fun w' => w'.cell? ⟨w.heap.size, 0, none⟩ = some (.pointer (some ⟨cb, 0, none⟩)) ∧ w'.cell? ⟨w.heap.size + 1, 0, none⟩ = some (.int .i64 b) ∧ w'.cell? ⟨w.heap.size + 1 + 1, 0, none⟩ = some (.bool false) ∧ w'.frozen? ⟨w.heap.size + 1 + 1, 0, none⟩ = false) (ds := [5]) #[false, false, false, false, false, false] (by kernel_rfl) rfl rfl ⟨(blk_cell Y0 0).trans rfl, (blk_cell Y1 0).trans rfl, (blk_cell Y2 0).trans rfl, blk_frozen Y2 0⟩ (fun hHeld => ?_)
          generalize World.drew _ = w5 at Y0 Y1 Y2 C5 B5 hHeld ⊢
          refine pure_ (i := 1) (N := some 34) (v := ?_) (a' := ?_) #[false, true, false, false, false, false] rfl rfl (by kernel_rfl) (fun _ _ _ h => h) (Or.inl ⟨by rfl, ?_⟩) ?_ ?_
          rotate_left
          · intro w'
            go_simp
            with_reducible rfl
          rotate_left
          · simp only [Act.put, List.setIfInBounds_toArray, List.set_cons_zero, List.set_cons_succ, i64_w, i32_w]
            rfl
          refine take_ (i := 0) (N := some 33) (v := ?_) (a' := ?_) #[true, true, false, false, false, false] rfl rfl (by kernel_rfl) (fun _ _ _ h => h) (Or.inl ⟨by rfl, ?_⟩) hHeld ?_ ?_
          rotate_left
          · rintro w' ⟨s0, s1, s2, s3⟩
            go_simp
            with_reducible rfl
          rotate_left
          · simp only [Act.put, List.setIfInBounds_toArray, List.set_cons_zero, List.set_cons_succ, i64_w, i32_w]
            rfl
          refine take_ (i := 3) (N := some 36) (v := ?_) (a' := ?_) #[true, true, false, true, false, false] rfl rfl (by kernel_rfl) (fun _ _ _ h => h) (Or.inl ⟨by rfl, ?_⟩) hHeld ?_ ?_
          rotate_left
          · rintro w' ⟨s0, s1, s2, s3⟩
            go_simp
            with_reducible rfl
          rotate_left
          · simp only [Act.put, List.setIfInBounds_toArray, List.set_cons_zero, List.set_cons_succ, i64_w, i32_w]
            rfl
          refine one_ (i := 2) (N := some 35) #[true, true, true, true, false, false] rfl rfl (by kernel_rfl) (by decide) (fun K hK => ?_)
          refine goes_ Tryd.func60 (by kernel_rfl) rfl #[.pointer (some ⟨cb, 0, none⟩), .int .i64 a] (by rfl) rfl rfl (by simp only [List.map_toArray, List.map_cons, List.map_nil]; rfl) ?_
          refine (skind_calls l cb a w5 C5.out HA.out.1 HA.out.2).mono ?_
          rintro e w6 ⟨rfl, rfl⟩
          refine ⟨_, rfl, ?_⟩
          refine hK.out _ _ ⟨(blk_cell Y0 0).trans rfl, (blk_cell Y1 0).trans rfl, (blk_cell Y2 0).trans rfl, blk_frozen Y2 0⟩ (fun hHeld => ?_)
          clear hK K
          refine norm_ (a' := ?_) ?_ ?_
          rotate_left
          · show Act.put _ (some 35) _ = _
            simp only [Act.put, List.setIfInBounds_toArray, List.set_cons_zero, List.set_cons_succ, i64_w, i32_w]
            rfl
          refine one_ (i := 4) (N := some 37) #[true, true, true, true, true, false] rfl rfl (by kernel_rfl) (by decide) (fun K hK => ?_)
          refine goes_ Tryd.func72 (by kernel_rfl) rfl #[.int .i64 (kindOf l a), .int .i64 b] (by rfl) rfl rfl (by simp only [List.map_toArray, List.map_cons, List.map_nil]; rfl) ?_
          refine (sabstract_calls (kindOf l a) b w6 HK0.out.1 HK0.out.2 HB.out.1 HB.out.2).mono ?_
          rintro e w6 ⟨rfl, rfl⟩
          refine ⟨_, rfl, ?_⟩
          refine hK.out _ _ ⟨(blk_cell Y0 0).trans rfl, (blk_cell Y1 0).trans rfl, (blk_cell Y2 0).trans rfl, blk_frozen Y2 0⟩ (fun hHeld => ?_)
          clear hK K
          refine norm_ (a' := ?_) ?_ ?_
          rotate_left
          · show Act.put _ (some 37) _ = _
            simp only [Act.put, List.setIfInBounds_toArray, List.set_cons_zero, List.set_cons_succ, i64_w, i32_w]
            rfl
          refine last_ (i := 5) (N := none) #[true, true, true, true, true, true] rfl rfl (by kernel_rfl) (by decide) (fun K hK => ?_)
          have hs_ : w6.cell? ⟨w.heap.size + 1 + 1, 0, none⟩ = some (.bool false) := (blk_cell Y2 0).trans rfl
          have hfs_ : w6.frozen? ⟨w.heap.size + 1 + 1, 0, none⟩ = false := blk_frozen Y2 0
          refine skip_ (w1 := ?_) (by rfl) rfl ?_ ?_
          rotate_left
          · go_simp
            rfl
          refine hK.out _ _ ?_
          clear hK K
          refine done_ (by kernel_rfl) ?_
          
          have Z2 := blk_set Y2 0 (.bool (absM (kindOf l a) b))
          have zc : (w6.setCell ⟨w.heap.size + 1 + 1, 0, none⟩ (.bool (absM (kindOf l a) b))).cell? ⟨w.heap.size + 1 + 1, 0, none⟩ = some (.bool (absM (kindOf l a) b)) := (blk_cell Z2 0).trans rfl
          have B6 : Below w.heap.size w (w6.setCell ⟨w.heap.size + 1 + 1, 0, none⟩ (.bool (absM (kindOf l a) b))) := B5.out.trans ((Below.refl _ _).setCell (p := ⟨w.heap.size + 1 + 1, 0, none⟩) (by show w.heap.size ≤ w.heap.size + 1 + 1; omega) _)
          go_wp2_with fail
          refine bodyPost_ret (v := .bool (heapM l a b)) ?_ rfl ?_
          · rw [EM.out, results_cell1 rfl]; go_simp
          · exact ⟨rfl, B6⟩
        · have K1 := sis_calls l cb a _ C0.out
          have K2 := sis_calls l cb b _ C0.out
          rw [ha] at K1
          rw [hb] at K2
          have K3 := sabove_calls cb a (((w.alloc (.cells #[.pointer (some ⟨cb, 0, none⟩)] 99)).alloc (.cells #[.int .i64 b] 3)).alloc (.cells #[.bool false] 4))
          refine (callsIn_wide (n := 5)).1 ?_
          refine callsIn_of_wp_marks Tryd.func54 rfl trivial ?_ rfl
          simp only [Tryd.ntmps54, List.size_toArray, List.length_cons, List.length_nil, Nat.reduceAdd, Nat.reduceSub, Array.replicate_succ, Array.replicate_zero, List.push_toArray, List.append_toArray, List.nil_append, List.cons_append]
          gi_wp2_with (refine ⟨trivial, ?_⟩; first | (gi_at_call 57; first | ((with_reducible refine (callsIn_wide.2 K1).mono ?_); rintro e w1 ⟨rfl, rfl⟩) | ((with_reducible refine (callsIn_wide.2 K2).mono ?_); rintro e w1 ⟨rfl, rfl⟩)) | (gi_at_call 59; refine (callsIn_wide.2 K3).mono ?_; rintro e w1 ⟨rfl, rfl⟩))
          obtain ⟨W4, hW4⟩ : ∃ W4, W4 = (((((w.alloc (.cells #[.pointer (some ⟨cb, 0, none⟩)] 99)).alloc (.cells #[.int .i64 b] 3)).alloc (.cells #[.bool false] 4)).alloc (.cells #[.pointer (some ⟨cb, 0, none⟩)] 99)).alloc (.cells #[.int .i64 a] 3)) := ⟨_, rfl⟩
          have hs4 : W4.heap.size = w.heap.size + 1 + 1 + 1 + 1 + 1 := by rw [hW4]; simp
          have hb4 : HB w cb b false W4 := ⟨by rw [hW4]; exact blk_alloc (blk_alloc x0 _) _, by rw [hW4]; exact blk_alloc (blk_alloc x1 _) _, by rw [hW4]; exact blk_alloc (blk_alloc x2 _) _,
            by rw [hW4]; have h := blk_alloc (blk_new (((w.alloc (.cells #[.pointer (some ⟨cb, 0, none⟩)] 99)).alloc (.cells #[.int .i64 b] 3)).alloc (.cells #[.bool false] 4)) (.cells #[.pointer (some ⟨cb, 0, none⟩)] 99)) (.cells #[.int .i64 a] 3); simpa using h,
            by rw [hW4]; exact (B0.out.alloc (by simp; omega) _).alloc (by simp; omega) _⟩
          have hx4 : W4.heap[w.heap.size + 1 + 1 + 1 + 1]? = some (.cells #[.int .i64 a] 3 (0, 0)) := by rw [hW4]; have h := blk_new ((((w.alloc (.cells #[.pointer (some ⟨cb, 0, none⟩)] 99)).alloc (.cells #[.int .i64 b] 3)).alloc (.cells #[.bool false] 4)).alloc (.cells #[.pointer (some ⟨cb, 0, none⟩)] 99)) (.cells #[.int .i64 a] 3); simpa using h
          rw [← hW4]
          have ha' := ha
          have hb' := hb
          clear hW4 K1 K2 K3 x0 x1 x2 C0 B0 HOUT ha hb
          have H4 := Aside0.mk hb4
          have X4 := Aside0.mk hx4
          have S4 := Aside0.mk hs4
          clear hb4 hx4 hs4
          refine range_cell (gf := 75) (lb := #[.pointer (some ⟨w.heap.size + 1 + 1 + 1, 0, none⟩), .pointer (some ⟨w.heap.size + 1 + 1 + 1 + 1, 0, none⟩)]) (nb := w.heap.size + 1 + 1 + 1 + 1) rfl (fun args w => enters_ Tryd.func75 (by kernel_rfl) rfl args w) rfl
            (above_seq l HC.out cb (w.heap.size + 1 + 1 + 1) (w.heap.size + 1 + 1 + 1 + 1) a (by omega) ha1 HLL.out 4) (by rw [S4.out]; omega) X4.out
            (fun p W => HB w cb b false W ∧ ∀ x ∈ p, ¬ SameT l x.toNat b.toNat)
            (fun c p W => c = .ret ∧ HB w cb b true W ∧ ∃ x ∈ p, SameT l x.toNat b.toNat)
            (fun p => HB.stays (by omega) (by rw [S4.out]; omega) _) (fun p W h => ⟨h.1.b3, CW.out.below h.1.bel⟩)
            (fun c p W l_ o hl hlt h => ⟨h.1, h.2.1.put l_ o (by rw [S4.out] at hl; omega) hlt, h.2.2⟩) ⟨H4.out, fun x hx => by cases hx⟩ ?a1 ?assign ?body ?done ?stop
          case assign =>
            intro rl x W K hK
            gi_wp2
            exact hK
          case body =>
            rintro rl p x W ⟨hB, hp⟩ ⟨hx0, hx1⟩
            have HB0 := Aside0.mk hB
            have HP0 := Aside0.mk hp
            obtain ⟨L, Ai, ci, Aa, ca, I, e1, e2, e3, e4, e5, e6⟩ := (CW.out.below hB.bel).ex
            have hIl : I.length = (flat l).length := e6.1
            obtain ⟨ai, v1, eA, g1, q1⟩ := at_int' e4 x.toNat (by omega)
            subst eA
            obtain ⟨ai', v2, eA, g2, q2⟩ := at_int' e4 b.toNat (by omega)
            injection eA with eA
            subst eA
            have y0 : W.cell? ⟨w.heap.size, 0, none⟩ = some (.pointer (some ⟨cb, 0, none⟩)) := (blk_cell hB.b0 0).trans rfl
            have y1 : W.cell? ⟨w.heap.size + 1, 0, none⟩ = some (.int .i64 b) := (blk_cell hB.b1 0).trans rfl
            have y2 : W.cell? ⟨cb, 1, none⟩ = some (.slice (some ai) I.length ci) := (blk_cell e1 1).trans rfl
            have SI : Aside0 (v1 = v2 ↔ SameT l x.toNat b.toNat) := ⟨by rw [← e6.2 x.toNat b.toNat (by omega) (by omega), g1, g2]; simp⟩
            have hxl : x < (I.length : Int) := by omega
            have hbl : b < (I.length : Int) := by omega
            clear e1 e2 e3 e4 e5 e6 hB hp g1 g2 hIl hx1
            gi_wp2
            refine startR_ (by rintro ⟨_, _, h_⟩; exact h_) (by kernel_rfl) (n := 15) (S := fun w' => w'.cell? ⟨w.heap.size, 0, none⟩ = some (.pointer (some ⟨cb, 0, none⟩)) ∧ w'.cell? ⟨w.heap.size + 1, 0, none⟩ = some (.int .i64 b) ∧ w'.cell? ⟨cb, 1, none⟩ = some (.slice (some ai) I.length ci) ∧ w'.cell? (ai.add x.toNat) = some (.int .i64 v1) ∧ w'.cell? (ai.add b.toNat) = some (.int .i64 v2)) (ds := []) #[false, false, false, false, false, false, false, false, false, false, false, false, false, false, false] (by kernel_rfl) rfl rfl ⟨y0, y1, y2, q1, q2⟩ (fun hHeld => ?_)
            refine pure_ (i := 4) (N := some 66) (v := ?_) (a' := ?_) #[false, false, false, false, true, false, false, false, false, false, false, false, false, false, false] rfl rfl (by kernel_rfl) (fun _ _ _ h => h) (Or.inl ⟨by rfl, ?_⟩) ?_ ?_
            rotate_left
            · intro w'
              go_simp
              with_reducible rfl
            rotate_left
            · simp only [Act.put, List.setIfInBounds_toArray, List.set_cons_zero, List.set_cons_succ, i64_w, i32_w]
              rfl
            refine take_ (i := 0) (N := some 62) (v := ?_) (a' := ?_) #[true, false, false, false, true, false, false, false, false, false, false, false, false, false, false] rfl rfl (by kernel_rfl) (fun _ _ _ h => h) (Or.inl ⟨by rfl, ?_⟩) hHeld ?_ ?_
            rotate_left
            · rintro w' ⟨s0, s1, s2, s3, s4⟩
              go_simp
              with_reducible rfl
            rotate_left
            · simp only [Act.put, List.setIfInBounds_toArray, List.set_cons_zero, List.set_cons_succ, i64_w, i32_w]
              rfl
            refine pure_ (i := 1) (N := some 63) (v := ?_) (a' := ?_) #[true, true, false, false, true, false, false, false, false, false, false, false, false, false, false] rfl rfl (by kernel_rfl) (fun _ _ _ h => h) (Or.inl ⟨by rfl, ?_⟩) ?_ ?_
            rotate_left
            · intro w'
              go_simp
              with_reducible rfl
            rotate_left
            · simp only [Act.put, List.setIfInBounds_toArray, List.set_cons_zero, List.set_cons_succ, i64_w, i32_w]
              rfl
            refine pure_ (i := 2) (N := some 64) (v := ?_) (a' := ?_) #[true, true, true, false, true, false, false, false, false, false, false, false, false, false, false] rfl rfl (by kernel_rfl) (fun _ _ _ h => h) (Or.inl ⟨by rfl, ?_⟩) ?_ ?_
            rotate_left
            · intro w'
              go_simp
              with_reducible rfl
            rotate_left
            · simp only [Act.put, List.setIfInBounds_toArray, List.set_cons_zero, List.set_cons_succ, i64_w, i32_w]
              rfl
            refine take_ (i := 3) (N := some 65) (v := ?_) (a' := ?_) #[true, true, true, true, true, false, false, false, false, false, false, false, false, false, false] rfl rfl (by kernel_rfl) (fun _ _ _ h => h) (Or.inl ⟨by rfl, ?_⟩) hHeld ?_ ?_
            rotate_left
            · rintro w' ⟨s0, s1, s2, s3, s4⟩
              go_simp
              with_reducible rfl
            rotate_left
            · simp only [Act.put, List.setIfInBounds_toArray, List.set_cons_zero, List.set_cons_succ, i64_w, i32_w]
              rfl
            refine pure_ (i := 5) (N := some 67) (v := ?_) (a' := ?_) #[true, true, true, true, true, true, false, false, false, false, false, false, false, false, false] rfl rfl (by kernel_rfl) (fun _ _ _ h => h) (Or.inl ⟨by rfl, ?_⟩) ?_ ?_
            rotate_left
            · intro w'
              go_simp
              with_reducible rfl
            rotate_left
            · simp only [Act.put, List.setIfInBounds_toArray, List.set_cons_zero, List.set_cons_succ, i64_w, i32_w]
              rfl
            refine take_ (i := 6) (N := some 68) (v := ?_) (a' := ?_) #[true, true, true, true, true, true, true, false, false, false, false, false, false, false, false] rfl rfl (by kernel_rfl) (fun _ _ _ h => h) (Or.inl ⟨by rfl, ?_⟩) hHeld ?_ ?_
            rotate_left
            · rintro w' ⟨s0, s1, s2, s3, s4⟩
              go_simp
              with_reducible rfl
            rotate_left
            · simp only [Act.put, List.setIfInBounds_toArray, List.set_cons_zero, List.set_cons_succ, i64_w, i32_w]
              rfl
            refine take_ (i := 7) (N := some 69) (v := ?_) (a' := ?_) #[true, true, true, true, true, true, true, true, false, false, false, false, false, false, false] rfl rfl (by kernel_rfl) (fun _ _ _ h => h) (Or.inl ⟨by rfl, ?_⟩) hHeld ?_ ?_
            rotate_left
            · rintro w' ⟨s0, s1, s2, s3, s4⟩
              go_simp
              with_reducible rfl
            rotate_left
            · simp only [Act.put, List.setIfInBounds_toArray, List.set_cons_zero, List.set_cons_succ, i64_w, i32_w]
              rfl
            refine pure_ (i := 8) (N := some 70) (v := ?_) (a' := ?_) #[true, true, true, true, true, true, true, true, true, false, false, false, false, false, false] rfl rfl (by kernel_rfl) (fun _ _ _ h => h) (Or.inl ⟨by rfl, ?_⟩) ?_ ?_
            rotate_left
            · intro w'
              go_simp
              with_reducible rfl
            rotate_left
            · simp only [Act.put, List.setIfInBounds_toArray, List.set_cons_zero, List.set_cons_succ, i64_w, i32_w]
              rfl
            refine pure_ (i := 9) (N := some 71) (v := ?_) (a' := ?_) #[true, true, true, true, true, true, true, true, true, true, false, false, false, false, false] rfl rfl (by kernel_rfl) (fun _ _ _ h => h) (Or.inl ⟨by rfl, ?_⟩) ?_ ?_
            rotate_left
            · intro w'
              go_simp
              with_reducible rfl
            rotate_left
            · simp only [Act.put, List.setIfInBounds_toArray, List.set_cons_zero, List.set_cons_succ, i64_w, i32_w]
              rfl
            refine take_ (i := 10) (N := some 72) (v := ?_) (a' := ?_) #[true, true, true, true, true, true, true, true, true, true, true, false, false, false, false] rfl rfl (by kernel_rfl) (fun _ _ _ h => h) (Or.inl ⟨by rfl, ?_⟩) hHeld ?_ ?_
            rotate_left
            · rintro w' ⟨s0, s1, s2, s3, s4⟩
              go_simp
              with_reducible rfl
            rotate_left
            · simp only [Act.put, List.setIfInBounds_toArray, List.set_cons_zero, List.set_cons_succ, i64_w, i32_w]
              rfl
            refine take_ (i := 11) (N := some 73) (v := ?_) (a' := ?_) #[true, true, true, true, true, true, true, true, true, true, true, true, false, false, false] rfl rfl (by kernel_rfl) (fun _ _ _ h => h) (Or.inl ⟨by rfl, ?_⟩) hHeld ?_ ?_
            rotate_left
            · rintro w' ⟨s0, s1, s2, s3, s4⟩
              go_simp
              with_reducible rfl
            rotate_left
            · simp only [Act.put, List.setIfInBounds_toArray, List.set_cons_zero, List.set_cons_succ, i64_w, i32_w]
              rfl
            refine pure_ (i := 12) (N := some 74) (v := ?_) (a' := ?_) #[true, true, true, true, true, true, true, true, true, true, true, true, true, false, false] rfl rfl (by kernel_rfl) (fun _ _ _ h => h) (Or.inl ⟨by rfl, ?_⟩) ?_ ?_
            rotate_left
            · intro w'
              go_simp
              with_reducible rfl
            rotate_left
            · simp only [Act.put, List.setIfInBounds_toArray, List.set_cons_zero, List.set_cons_succ, i64_w, i32_w]
              rfl
            refine take_ (i := 13) (N := some 75) (v := ?_) (a' := ?_) #[true, true, true, true, true, true, true, true, true, true, true, true, true, true, false] rfl rfl (by kernel_rfl) (fun _ _ _ h => h) (Or.inl ⟨by rfl, ?_⟩) hHeld ?_ ?_
            rotate_left
            · rintro w' ⟨s0, s1, s2, s3, s4⟩
              go_simp
              with_reducible rfl
            rotate_left
            · simp only [Act.put, List.setIfInBounds_toArray, List.set_cons_zero, List.set_cons_succ, i64_w, i32_w]
              rfl
            refine pure_ (i := 14) (N := some 76) (v := ?_) (a' := ?_) #[true, true, true, true, true, true, true, true, true, true, true, true, true, true, true] rfl rfl (by kernel_rfl) (fun _ _ _ h => h) (Or.inl ⟨by rfl, ?_⟩) ?_ ?_
            rotate_left
            · intro w'
              go_simp
              with_reducible rfl
            rotate_left
            · simp only [Act.put, List.setIfInBounds_toArray, List.set_cons_zero, List.set_cons_succ, i64_w, i32_w]
              rfl
            refine done_ (by kernel_rfl) ?_
            
            have HBD : Aside0 (HB w cb b false W.drew) := ⟨⟨HB0.out.b0, HB0.out.b1, HB0.out.b2, HB0.out.b3, HB0.out.bel.drew⟩⟩
            have ED : Aside0 (W.drew.heap = W.heap) := ⟨rfl⟩
            clear hHeld y0 y1 y2 q1 q2
            generalize W.drew = Wd at HBD ED ⊢
            by_cases hv : v1 = v2
            · have hbe : (v1 == v2) = true := by simp [hv]
              have z2 : Wd.cell? ⟨w.heap.size + 1 + 1, 0, none⟩ = some (.bool false) := (blk_cell HBD.out.b2 0).trans rfl
              have f2 : Wd.frozen? ⟨w.heap.size + 1 + 1, 0, none⟩ = false := blk_frozen HBD.out.b2 0
              gi_wp2
              refine ⟨⟨?_, fun k hk1 hk2 => ?_⟩, rfl, HBD.out.store true, x, by simp, SI.out.1 hv⟩
              · rw [← ED.out]; simp
              · rw [← ED.out]; exact Below.heap_setCell Wd ⟨w.heap.size + 1 + 1, 0, none⟩ _ k (by rw [S4.out] at hk1; show k ≠ w.heap.size + 1 + 1; omega)
            · have hbe : (v1 == v2) = false := by simp [hv]
              gi_wp2
              refine ⟨⟨by rw [ED.out]; exact Nat.le_refl _, by rw [ED.out], fun k _ _ => by rw [ED.out]⟩, HBD.out, fun y hy => ?_⟩
              rcases List.mem_append.1 hy with hy | hy
              · exact HP0.out y hy
              · rw [List.mem_singleton.1 hy]; exact fun hs => hv (SI.out.2 hs)
          case done =>
            rintro D p W hD rfl ⟨hB, hp⟩ hK
            have EF : Aside0 (heapM l a b = false) := ⟨by
              rw [Bool.eq_false_iff]
              intro h
              obtain ⟨x, hx, hs⟩ := (heapM_rows ha' hb' (by omega) (by omega)).1 h
              exact hp x hx hs⟩
            have z2 : W.cell? ⟨w.heap.size + 1 + 1, 0, none⟩ = some (.bool false) := (blk_cell hB.b2 0).trans rfl
            have f2 : W.frozen? ⟨w.heap.size + 1 + 1, 0, none⟩ = false := blk_frozen hB.b2 0
            gi_wp2
            have hB2 := hB.store false
            have hK2 : (W.setCell ⟨w.heap.size + 1 + 1, 0, none⟩ (.bool false)).heap[D]? = some (.deferred (some [])) := (Below.heap_setCell W ⟨w.heap.size + 1 + 1, 0, none⟩ _ D (by rw [S4.out] at hD; show D ≠ w.heap.size + 1 + 1; omega)).trans hK
            have hE := hB2.put D (.deferred none) (by rw [S4.out] at hD; omega) (blk_lt' hK2)
            have zc : ((W.setCell ⟨w.heap.size + 1 + 1, 0, none⟩ (.bool false)).putObj D (.deferred none)).cell? ⟨w.heap.size + 1 + 1, 0, none⟩ = some (.bool false) := (blk_cell hE.b2 0).trans rfl
            refine ⟨by simp, .inl ⟨_, _, rfl, run_takeDeferred hK2, ?_⟩⟩
            refine ⟨.bool false, ?_, by rw [EF.out], hE.bel⟩
            rw [results_cell1 rfl]
            go_simp
          case stop =>
            rintro D c p W hD ⟨t, ht⟩ ⟨rfl, hB, x, hx, hs⟩ hK
            gi_wp2
            have EF : Aside0 (heapM l a b = true) := ⟨(heapM_rows ha' hb' (by omega) (by omega)).2 ⟨x, by rw [← ht]; exact List.mem_append_left _ hx, hs⟩⟩
            have hE := hB.put D (.deferred none) (by rw [S4.out] at hD; omega) (blk_lt' hK)
            have zc : (W.putObj D (.deferred none)).cell? ⟨w.heap.size + 1 + 1, 0, none⟩ = some (.bool true) := (blk_cell hE.b2 0).trans rfl
            refine ⟨by simp, .inl ⟨_, _, rfl, run_takeDeferred hK, ?_⟩⟩
            refine ⟨.bool true, ?_, by rw [EF.out], hE.bel⟩
            rw [results_cell1 rfl]
            go_simp
    · have EM : Aside0 (heapM l a b = false) := ⟨heapM_no (fun h => hb h.2)⟩
      have fb : isM l b = false := by simpa using hb
      have K1 := sis_calls l cb a _ C0.out
      have K2 := sis_calls l cb b _ C0.out
      rw [ha] at K1
      rw [fb] at K2
      clear ha hb fb
      go_enter Tryd.func54, Tryd.ntmps54
      go_wp2_with (first | ((with_reducible refine K1.mono ?_); rintro e w1 ⟨rfl, rfl⟩) | ((with_reducible refine K2.mono ?_); rintro e w1 ⟨rfl, rfl⟩))
      refine bodyPost_ret (v := .bool false) ?_ rfl ?_
      · rw [results_cell1 rfl]; go_simp
      · exact ⟨by rw [EM.out], HOUT.out false⟩
  · have EM : Aside0 (heapM l a b = false) := ⟨heapM_no (fun h => ha h.1)⟩
    have fa : isM l a = false := by simpa using ha
    have K1 := sis_calls l cb a _ C0.out
    rw [fa] at K1
    clear ha fa
    go_enter Tryd.func54, Tryd.ntmps54
    go_wp2_with ((with_reducible refine K1.mono ?_); rintro e w1 ⟨rfl, rfl⟩)
    refine bodyPost_ret (v := .bool false) ?_ rfl ?_
    · rw [results_cell1 rfl]; go_simp
    · exact ⟨by rw [EM.out], HOUT.out false⟩
end Go.Proofs.YtfgglniigeagdaaDoor.Cn
namespace Go.Proofs.YtfgglniigeagdaaDoor.Cn
set_option linter.unusedSimpArgs false
set_option linter.unusedVariables false
open Go.RowKit Go.Maps Go.Proofs.YtfgglniigeagdaaDoorW.PrintWords Go.Proofs.YtfgglniigeagdaaDoorW.PrintLast Go.Proofs.YtfgglniigeagdaaDoorW.PrintMore Go.Proofs.YtfgglniigeagdaaDoor.QD
set_option maxRecDepth 100000 in
theorem SHeap_yes (A : Option Addr) (c : Nat) (l : List S62) (a b : Int) (w : World) (hl : LA w A c l) (hc : Clo l) (htab : Lib.TabBelow Tryd.prog w.heap.size w "internal/strconv.uint64pow10" .u64 Lib.pow10Tab) :
    Calls Tryd.prog 31 #[.slice A l.length c, .int .i64 a, .int .i64 b] w fun e w' => e = .returned (.bool (heapM l a b)) ∧ Below w.heap.size w w' := by
  have K := opened_calls A c l w hl htab
  have HC := Aside0.mk hc
  have hw := hl.w
  have htc := tcount_le_wL l
  have HF : Aside0 ((flat l).length ≤ 1048576) := ⟨by rw [flat_length]; omega⟩
  clear hl hc htab hw htc
  go_enter Tryd.func31, Tryd.ntmps31
  go_wp2_with fail
  refine K.mono ?_
  rintro e w1 ⟨hb, ⟨_, rfl, hx⟩ | ⟨hn, _⟩⟩
  rotate_left
  · exact absurd HC.out hn
  have B1 := Aside0.mk hb
  have X1 := Aside0.mk hx
  clear hb hx K
  go_wp2_with fail
  refine (sheap_calls l HC.out w.heap.size a b w1 X1.out HF.out).mono ?_
  rintro e w2 ⟨rfl, hb⟩
  have B2 := Aside0.mk (B1.out.trans (hb.mono B1.out.size))
  clear hb
  go_wp2_with fail
  go_ret
  exact ⟨rfl, B2.out⟩
theorem LA.nil (w : World) : LA w none 0 [] := ⟨Kd.C_nil _ _, Nat.le_refl _, (fun r hr => (by cases hr)), by simp [wL]⟩
theorem clo_nil : Clo ([] : List S62) := fun j r h => by simp at h
set_option maxRecDepth 100000 in
theorem awake_calls (w : World) (htab : Lib.TabBelow Tryd.prog w.heap.size w "internal/strconv.uint64pow10" .u64 Lib.pow10Tab) : Calls Tryd.prog 30 #[] w fun e w' => e = .returned (.bool true) ∧ Below w.heap.size w w' := by
  have HT := Aside0.mk htab
  have K1 := SHeap_yes none 0 [] (-10) (-6) w (LA.nil w) clo_nil htab
  have e1 : heapM [] (-10) (-6) = true := by simp [heapM, isM, absM, famH, flat]
  have e2 : heapM [] (-6) (-7) = false := by simp [heapM, isM, absM, absL, upH, flat]
  rw [e1] at K1
  clear htab
  go_enter Tryd.func30, Tryd.ntmps30
  go_wp2_with fail
  refine K1.mono ?_
  rintro e w1 ⟨rfl, hb⟩
  have B1 := Aside0.mk hb
  clear hb K1
  go_wp2_with fail
  have K2 := SHeap_yes none 0 [] (-6) (-7) w1 (LA.nil w1) clo_nil (tab_mono (HT.out.on B1.out) B1.out.size)
  rw [e2] at K2
  refine K2.mono ?_
  rintro e w2 ⟨rfl, hb⟩
  have B2 := Aside0.mk (B1.out.trans (hb.mono B1.out.size))
  clear hb K2
  go_wp2_with fail
  go_ret
  exact ⟨rfl, B2.out⟩
theorem results_cell_t3 {P : Program} {fn : Func} {p u v x : Tmp} {ty : TypeId} (h : fn.results = #[.cell p ty, .tmp u, .tmp v, .tmp x]) (tmps : Array Value) (w : World) (g : Nat) (cs : Array Value)
    (hp : tmps.getD p undef = .pointer (some ⟨g, 0, none⟩)) (hl : (loadVar ty ⟨g, 0, none⟩).run P w = .ok (.agg cs) w) :
    (results fn tmps).run P w = .ok (.tuple #[.agg cs, tmps.getD u undef, tmps.getD v undef, tmps.getD x undef]) w := by
  have hp' : tmps[p]?.getD undef = .pointer (some ⟨g, 0, none⟩) := by simpa using hp
  simp [results, h, hp', asAddr, hl, Sem.run_bind, Result.andThen]
/-- A type's cells, in memory of others. -/
def TyIn (w : World) (s : S53) (A1 : Option Addr) (c1 : Nat) (A3 : Option Addr) (c3 : Nat) (A4 : Option Addr) (c4 : Nat) (A5 : Option Addr) (c5 : Nat) : Prop :=
  k53.K w s [.bool s.f0, .slice A1 s.f1.length c1, .int .i64 s.f2.f0, .slice A3 s.f2.f1.length c3, .slice A4 s.f2.f2.length c4, .slice A5 s.f2.f3.length c5]
set_option maxRecDepth 100000 in
set_option maxHeartbeats 8000000 in
theorem r5At_calls (A : Option Addr) (c : Nat) (l : List S62) (n : Int) (w : World) (hl : LA w A c l) (n0 : 0 ≤ n) (n1 : n < ((flat l).length : Int)) :
    Calls Tryd.prog 36 #[.slice A l.length c, .int .i64 n] w fun e w' => ∃ A1 c1 A3 c3 A4 c4 A5 c5 i p, e = .returned (.tuple #[.agg #[.bool (tyAt l n).f0, .slice A1 (tyAt l n).f1.length c1, .int .i64 (tyAt l n).f2.f0, .slice A3 (tyAt l n).f2.f1.length c3, .slice A4 (tyAt l n).f2.f2.length c4, .slice A5 (tyAt l n).f2.f3.length c5], .int .i64 i, .int .i64 p, .bool true]) ∧ TyIn w (tyAt l n) A1 c1 A3 c3 A4 c4 A5 c5 ∧ Below w.heap.size w w' := by
  have HL := Aside0.mk hl
  have hw := hl.w
  have htc := tcount_le_wL l
  have hfl := flat_length l
  have N0 := Aside0.mk n0
  have N1 := Aside0.mk n1
  have hll : l.length ≤ 1048576 := by omega
  have HT : Aside0 (tcount l ≤ 1048576) := ⟨by omega⟩
  have hb0 : Below w.heap.size w (w.alloc (.cells #[.bool false, .slice none 0 0, .int .i64 0, .slice none 0 0, .slice none 0 0, .slice none 0 0] 53)) := (Below.refl _ _).alloc (Nat.le_refl _) _
  have HB := Aside0.mk hb0
  clear hl hw htc hb0
  go_enter Tryd.func36, Tryd.ntmps36
  go_wp2_with fail
  clear n0 n1
  go_loopw [1, 8] (fun v i W => ∃ (j : Nat) (x : Int), i = .int .i64 j ∧ j ≤ l.length ∧ v = .int .i64 x ∧ 0 ≤ x ∧ n = (tcount (l.take j) : Int) + x ∧ W = w.alloc (.cells #[.bool false, .slice none 0 0, .int .i64 0, .slice none 0 0, .slice none 0 0, .slice none 0 0] 53)) (fun _ i _ => l.length - (intOf i).toNat)
  case atStart => exact ⟨0, n, rfl, Nat.zero_le _, rfl, N0.out, by simp [tcount], rfl⟩
  case round =>
    obtain ⟨j, x, rfl, hj, rfl, x0, hx, rfl⟩ := hrel
    have HX := Aside0.mk hx
    clear hx
    have j0 : (0 : Int) ≤ (j : Int) := Int.natCast_nonneg j
    by_cases hlj : j < l.length
    · obtain ⟨ad, Ar, cr, rfl, d0, d1, hrc, hrC⟩ := at_T62 HL.out.C (j : Int) j0 (by omega)
      have HRJ := Aside0.mk (rd_RT_at l j hlj)
      simp only [Int.toNat_natCast] at d0 d1
      obtain ⟨r, hre⟩ : ∃ r, r = rd_T62 l (j : Int) := ⟨_, rfl⟩
      rw [← hre] at d0 d1 hrc hrC HRJ
      clear hre
      replace d0 := (HB.out.cell (World.block_lt_of_cell? w _ d0)).trans d0
      have jl : (j : Int) < (l.length : Int) := by omega
      by_cases hxr : x < (r.f0.length : Int)
      · obtain ⟨ae, A1, c1, A3, c3, A4, c4, A5, c5, rfl, e0, e1, e2, e3, e4, e5, m1, r1, m3, r3, m4, r4, m5, r5⟩ := at_T53 hrC x x0 hxr
        have hty : rd_T53 r.f0 x = tyAt l n := by
          have h1 := flat_get HRJ.out (o := x.toNat) (by omega)
          have h2 : n.toNat = tcount (l.take j) + x.toNat := by have := HX.out; omega
          unfold tyAt rd_T53
          rw [List.getD_eq_getElem?_getD, List.getD_eq_getElem?_getD, h2, h1]
        rw [hty] at e0 e1 e2 e3 e4 e5 m1 r1 m3 r3 m4 r4 m5 r5
        have K := Aside0.mk (show TyIn w (tyAt l n) A1 c1 A3 c3 A4 c4 A5 c5 from k53_mk w (tyAt l n) m1 r1 m3 r3 m4 r4 m5 r5)
        obtain ⟨s, hs⟩ : ∃ s, s = tyAt l n := ⟨_, rfl⟩
        rw [← hs] at e0 e1 e2 e3 e4 e5 K
        have HS := Aside0.mk hs
        replace e0 := (HB.out.cell (World.block_lt_of_cell? w _ e0)).trans e0
        replace e1 := (HB.out.cell (World.block_lt_of_cell? w _ e1)).trans e1
        replace e2 := (HB.out.cell (World.block_lt_of_cell? w _ e2)).trans e2
        replace e3 := (HB.out.cell (World.block_lt_of_cell? w _ e3)).trans e3
        replace e4 := (HB.out.cell (World.block_lt_of_cell? w _ e4)).trans e4
        replace e5 := (HB.out.cell (World.block_lt_of_cell? w _ e5)).trans e5
        clear m1 r1 m3 r3 m4 r4 m5 r5 hs hty hrc hrC d1
        go_wp2_with fail
        refine bodyPost_ret (results_cell_t3 rfl _ _ w.heap.size #[.bool s.f0, .slice A1 s.f1.length c1, .int .i64 s.f2.f0, .slice A3 s.f2.f1.length c3, .slice A4 s.f2.f2.length c4, .slice A5 s.f2.f3.length c5] rfl (run_loadVar_row _ _ 53 53 _ (0, 0) _ (blk_new w _) Tryd.underlying53 rfl (by kernel_rfl))) rfl ?_
        rw [← HS.out]
        exact ⟨A1, c1, A3, c3, A4, c4, A5, c5, (j : Int), x, rfl, K.out, (Below.refl _ _).alloc (Nat.le_refl _) _⟩
      · have hwx : wrap64 (x - (r.f0.length : Int)) = x - r.f0.length := by
          have h1 := tcount_take_le l j r HRJ.out
          have h2 := HX.out
          have h3 := N1.out
          have h4 := HT.out
          unfold wrap64; omega
        clear d1 hrc hrC
        go_wp2_with fail
        go_roundw
        case rel => exact ⟨j + 1, x - r.f0.length, by go_num, by omega, by rw [hwx], by omega, by rw [tcount_take l j r HRJ.out]; have := HX.out; push_cast; omega, trivial⟩
        case measure => simp [intOf]; omega
    · exfalso
      obtain rfl : j = l.length := by omega
      have h1 := HX.out
      have h2 := N1.out
      rw [List.take_length] at h1
      omega
/-- At, with its type's cells named. -/
theorem TyIn.open {w : World} {s : S53} {A1 : Option Addr} {c1 : Nat} {A3 : Option Addr} {c3 : Nat} {A4 : Option Addr} {c4 : Nat} {A5 : Option Addr} {c5 : Nat} (h : TyIn w s A1 c1 A3 c3 A4 c4 A5 c5) :
    (s.f1.length ≤ c1 ∧ (Kd.int .i64).C w A1 s.f1.length s.f1) ∧ (s.f2.f1.length ≤ c3 ∧ k74.C w A3 s.f2.f1.length s.f2.f1) ∧ (s.f2.f2.length ≤ c4 ∧ k74.C w A4 s.f2.f2.length s.f2.f2) ∧ (s.f2.f3.length ≤ c5 ∧ k118.C w A5 s.f2.f3.length s.f2.f3) := by
  obtain ⟨B1, d1, B3, d3, B4, d4, B5, d5, e, l1, g1, l3, g3, l4, g4, l5, g5⟩ := k53_open h
  simp only [List.cons.injEq, Value.slice.injEq, and_true, true_and] at e
  obtain ⟨⟨rfl, rfl⟩, ⟨rfl, rfl⟩, ⟨rfl, rfl⟩, rfl, rfl⟩ := e
  exact ⟨⟨l1, g1⟩, ⟨l3, g3⟩, ⟨l4, g4⟩, l5, g5⟩
theorem LA.flat_le {w : World} {A : Option Addr} {c : Nat} {l : List S62} (h : LA w A c l) : (flat l).length ≤ 1048576 := by
  have hw := h.w
  have htc := tcount_le_wL l
  rw [flat_length]
  omega
noncomputable def valM (l : List S62) (a b : S74) : Bool := decide (a.f0 = b.f0) && (decide (1 ≤ a.f0) && decide (a.f0 ≤ 7)) && (decide (a.f0 ≠ 5) || (heapM l a.f2 b.f2 && (!a.f1 || b.f1)))
noncomputable def valsM (l : List S62) (a b : List S74) : Bool := decide (a.length = b.length) && (a.zip b).all fun p => valM l p.1 p.2
noncomputable def fieldM (l : List S62) (a b : S118) : Bool := (a.f1 == b.f1) && valM l a.f0 b.f0 && (!a.f1 || valM l b.f0 a.f0)
noncomputable def compM (l : List S62) (a b : S51) : Bool :=
  decide (a.f0 = b.f0) && (if a.f0 = 1 then valsM l b.f1 a.f1 && valsM l a.f2 b.f2
    else (if a.f0 = 2 then decide (b.f3.length ≤ a.f3.length) else decide (a.f0 = 3) && decide (a.f3.length = 1) && decide (b.f3.length = 1)) && (a.f3.zip b.f3).all fun p => fieldM l p.1 p.2)
theorem zip_snoc {α β : Type} {f : α × β → Bool} {us : List α} {vs : List β} {k : Nat} {x : α} {y : β} (hx : us[k]? = some x) (hy : vs[k]? = some y) : ((us.zip vs).take (k + 1)).all f = (((us.zip vs).take k).all f && f (x, y)) := by
  have : (us.zip vs)[k]? = some (x, y) := by exact List.getElem?_zip_eq_some.2 ⟨hx, hy⟩
  rw [List.take_add_one, this, List.all_append]
  simp
theorem zip_stop {α β : Type} {f : α × β → Bool} {us : List α} {vs : List β} {k : Nat} {x : α} {y : β} (hx : us[k]? = some x) (hy : vs[k]? = some y) (h : f (x, y) = false) : (us.zip vs).all f = false := by
  have : (us.zip vs)[k]? = some (x, y) := by exact List.getElem?_zip_eq_some.2 ⟨hx, hy⟩
  rw [List.all_eq_false]
  exact ⟨_, List.mem_of_getElem? this, by rw [h]; simp⟩
/-- A composite type's rows, in memory of others. -/
structure CIn2 (w : World) (a : S51) (P1 R1 F1 : Option Addr) : Prop where
  p : Kd.C k74 w P1 a.f1.length a.f1
  r : Kd.C k74 w R1 a.f2.length a.f2
  f : Kd.C k118 w F1 a.f3.length a.f3
  lp : a.f1.length ≤ 1048576
  lr : a.f2.length ≤ 1048576
  lf : a.f3.length ≤ 1048576
theorem CIn2.below {w w' : World} {a : S51} {P1 R1 F1 : Option Addr} (h : CIn2 w a P1 R1 F1) (hb : Below w.heap.size w w') : CIn2 w' a P1 R1 F1 := ⟨Kd.C_below h.p hb, Kd.C_below h.r hb, Kd.C_below h.f hb, h.lp, h.lr, h.lf⟩
/-- Below n, types declare types ahead of them. -/
def Down (l : List S62) (n : Int) : Prop := ∀ x : Int, 0 ≤ x → x < n → ∀ y ∈ (tyAt l x).f1, y < x
def depthM (l : List S62) (n : Int) : Int := ((chain l ((flat l).length + 1) n).length : Int) - 1
noncomputable def declM (l : List S62) (n : Int) : Int :=
  if ∃ h ∈ (tyAt l n).f1, n ≤ h then 50
  else if 1 < (tyAt l n).f1.length then 1
  else match (tyAt l n).f1 with
    | [] => 0
    | o :: _ => if (tyAt l o).f0 = true then 70 else if 63 ≤ depthM l o then 72 else if compM l (tyAt l n).f2 (tyAt l o).f2 = true then 0 else 71
theorem depthM_bounds {l : List S62} {n : Int} : 0 ≤ depthM l n ∧ depthM l n ≤ (flat l).length := by
  have h : ∀ (k : Nat) (x : Int), (chain l k x).length ≤ k := by
    intro k
    induction k with
    | zero => intro x; simp [chain]
    | succ k ih =>
      intro x
      rcases hz : (tyAt l x).f1 with _ | ⟨y, t⟩
      · rw [chain_end _ hz]; simp
      · rw [chain_on _ hz]; have := ih y; simp; omega
  have h1 := h ((flat l).length + 1) n
  have h2 : 1 ≤ (chain l ((flat l).length + 1) n).length := by
    rcases hz : (tyAt l n).f1 with _ | ⟨y, t⟩
    · rw [chain_end _ hz]; simp
    · rw [chain_on _ hz]; simp
  unfold depthM
  omega
/-- The bounds of a composite type that came in. -/
theorem cin2_of {w : World} {l : List S62} {A : Option Addr} {c : Nat} (hl : LA w A c l) {n : Int} (n0 : 0 ≤ n) (n1 : n < ((flat l).length : Int)) {A1 : Option Addr} {c1 : Nat} {A3 : Option Addr} {c3 : Nat} {A4 : Option Addr} {c4 : Nat} {A5 : Option Addr} {c5 : Nat} (h : TyIn w (tyAt l n) A1 c1 A3 c3 A4 c4 A5 c5) : CIn2 w (tyAt l n).f2 A3 A4 A5 ∧ (tyAt l n).f1.length ≤ 1048576 := by
  obtain ⟨_, ⟨_, h3⟩, ⟨_, h4⟩, _, h5⟩ := h.open
  obtain ⟨j, r, p, hj, hr, he, hp⟩ := place_of l l.length n.toNat (Nat.le_refl _) (by rw [List.take_length, ← flat_length]; omega)
  have h6 : (flat l)[n.toNat]? = r.f0[p]? := by rw [he]; exact flat_get hr hp
  have h7 : tyAt l n = r.f0[p] := by
    unfold tyAt rd_T53
    rw [List.getD_eq_getElem?_getD, h6, List.getElem?_eq_getElem hp]
    rfl
  have hw := hl.w
  have hr' := List.mem_of_getElem? hr
  have hs : wS (tyAt l n) ≤ 1048576 := by
    rw [h7]
    have a1 := wS_le_wG (List.getElem_mem hp)
    have a2 := wG_le_wL hr'
    omega
  unfold wS at hs
  exact ⟨⟨h3, h4, h5, by omega, by omega, by omega⟩, by omega⟩
theorem down_of {l : List S62} {n : Int} (h : ∀ m : Int, 0 ≤ m → m < n → declM l m = 0) : Down l n := by
  intro x x0 x1 y hy
  have h0 := h x x0 x1
  unfold declM at h0
  by_cases he : ∃ h ∈ (tyAt l x).f1, x ≤ h
  · rw [if_pos he] at h0; omega
  · rcases Int.lt_or_le y x with h1 | h1
    · exact h1
    · exact absurd ⟨y, hy, h1⟩ he
/-- What Decl answers of closed groups: the first type that may not be declared so. -/
def DeclOut (l : List S62) (n e : Int) : Prop := (n = 0 ∧ e = 0 ∧ ∀ m : Int, 0 ≤ m → m < ((flat l).length : Int) → declM l m = 0) ∨ (0 ≤ n ∧ n < ((flat l).length : Int) ∧ e = declM l n ∧ e ≠ 0 ∧ ∀ m : Int, 0 ≤ m → m < n → declM l m = 0)
/-- The ids of a list, and what they tell: two types are one just if their groups, rolled up, are one, and their places in these. -/
structure IdsOf (l : List S62) (gs : List (List S53)) (I : List Int) : Prop where
  dist : Dist gs
  len : I.length = tcount l
  pos : ∀ i ∈ I, 0 ≤ i
  all : ∀ (j : Nat) (r : S62), l[j]? = some r → ∃ idx, gs[idx]? = some (ownG (I.take (tcount (l.take j))) r) ∧ ∀ o, o < r.f0.length → I[tcount (l.take j) + o]? = some (firstOf gs idx + o)
  same : ∀ x y : Nat, x < tcount l → y < tcount l → (SameT l x y ↔ rd I x = rd I y)
theorem idsOf_ex {l : List S62} (hc : Clo l) (ht : tcount l ≤ 1048576) : ∃ gs I, IdsOf l gs I := by
  obtain ⟨g1, i1, h1, h2⟩ := oneIds_self ht
  obtain ⟨hD, _, ⟨t, he, hl⟩, hch⟩ := addTo_char _ _ _ _ _ _ h1 Dist.nil
  refine ⟨g1, i1, hD, by rw [he]; simpa using hl, ids_nonneg h1 Dist.nil, fun j r hr => ?_, fun x y hx hy => sameT_iff (g1 := g1) hc h2 hx hy⟩
  obtain ⟨idx, ha, hb⟩ := hch j r hr
  simp only [List.length_nil, Nat.zero_add] at ha hb
  exact ⟨idx, ha, hb⟩
theorem SameT.refl {l : List S62} (hc : Clo l) (ht : tcount l ≤ 1048576) {x : Nat} (hx : x < tcount l) : SameT l x x := by
  obtain ⟨gs, I, h⟩ := idsOf_ex hc ht
  exact (h.same x x hx hx).2 rfl
theorem SameT.symm {l : List S62} (hc : Clo l) (ht : tcount l ≤ 1048576) {x y : Nat} (hx : x < tcount l) (hy : y < tcount l) (hs : SameT l x y) : SameT l y x := by
  obtain ⟨gs, I, h⟩ := idsOf_ex hc ht
  exact (h.same y x hy hx).2 ((h.same x y hx hy).1 hs).symm
theorem SameT.trans {l : List S62} (hc : Clo l) (ht : tcount l ≤ 1048576) {x y z : Nat} (hx : x < tcount l) (hy : y < tcount l) (hz : z < tcount l) (h1 : SameT l x y) (h2 : SameT l y z) : SameT l x z := by
  obtain ⟨gs, I, h⟩ := idsOf_ex hc ht
  exact (h.same x z hx hz).2 (((h.same x y hx hy).1 h1).trans ((h.same y z hy hz).1 h2))
/-- Down a list of valid declarations, more fuel gives no longer chain. -/
theorem chain_fuel {l : List S62} (hc : Clo l) {N : Int} (hd : Down l N) (hN : N ≤ ((flat l).length : Int)) : ∀ (k : Nat) (x : Int) (k' : Nat), 0 ≤ x → x < N → x < k → k ≤ k' → chain l k x = chain l k' x := by
  intro k
  induction k with
  | zero => intro x k' h0 _ h1; omega
  | succ k ih =>
    intro x k' h0 h1 h2 h3
    obtain ⟨k'', rfl⟩ : ∃ k'', k' = k'' + 1 := ⟨k' - 1, by omega⟩
    rcases hz : (tyAt l x).f1 with _ | ⟨y, t⟩
    · rw [chain_end _ hz, chain_end _ hz]
    · rw [chain_on _ hz, chain_on _ hz]
      have hy := tyAt_supers hc h0 (by omega) y (by rw [hz]; simp)
      have hyx := hd x h0 h1 y (by rw [hz]; simp)
      rw [ih y k'' hy.1 (by omega) (by omega) (by omega)]
/-- The chain above a type, in full. -/
def ch (l : List S62) (x : Int) : List Int := chain l ((flat l).length + 1) x
theorem ch_on {l : List S62} (hc : Clo l) (hd : Down l ((flat l).length : Int)) {x y : Int} {t : List Int} (h0 : 0 ≤ x) (h1 : x < ((flat l).length : Int)) (hz : (tyAt l x).f1 = y :: t) : ch l x = x :: ch l y ∧ 0 ≤ y ∧ y < x := by
  have hy := tyAt_supers hc h0 h1 y (by rw [hz]; simp)
  have hyx := hd x h0 h1 y (by rw [hz]; simp)
  refine ⟨?_, hy.1, hyx⟩
  unfold ch
  rw [chain_on _ hz, chain_fuel hc hd (Int.le_refl _) (flat l).length y ((flat l).length + 1) hy.1 (by omega) (by omega) (by omega)]
theorem ch_self {l : List S62} (x : Int) : x ∈ ch l x := by
  unfold ch
  rcases hz : (tyAt l x).f1 with _ | ⟨y, t⟩
  · rw [chain_end _ hz]; simp
  · rw [chain_on _ hz]; simp
attribute [local go_sem] Oper.semAt_some
/-- The boxes of context.depth. -/
structure DB (w : World) (cb : Nat) (d : Int) (W : World) : Prop where
  b0 : W.heap[w.heap.size]? = some (.cells #[.int .i64 d] 3 (0, 0))
  b1 : W.heap[w.heap.size + 1]? = some (.cells #[.pointer (some ⟨cb, 0, none⟩)] 99 (0, 0))
  bel : Below w.heap.size w W
theorem DB.put {w W : World} {cb : Nat} {d : Int} (h : DB w cb d W) (l : Nat) (o : Obj) (hl : w.heap.size + 1 < l) (hlt : l < W.heap.size) : DB w cb d (W.putObj l o) :=
  ⟨(World.putObj_heap_other (by omega)).trans h.b0, (World.putObj_heap_other (by omega)).trans h.b1, h.bel.grown (grownBy_putObj' W l o) h.bel.size (fun k e => by cases e; omega)⟩
theorem DB.stays {w : World} {cb : Nat} {d : Int} {nb B : Nat} (hn : w.heap.size + 1 < nb) (hB : w.heap.size + 1 < B) : Stays nb B (fun W => DB w cb d W) where
  put := fun W l o hl hlt h => h.put l o (by omega) hlt
  set := fun W u h => ⟨blk_far h.b0 (show w.heap.size ≠ nb by omega) u, blk_far h.b1 (show w.heap.size + 1 ≠ nb by omega) u, h.bel.trans ((Below.refl _ _).setCell (p := ⟨nb, 0, none⟩) (by show w.heap.size ≤ nb; omega) u)⟩
  drew := fun W h => ⟨h.b0, h.b1, h.bel.drew⟩
  alloc := fun W o h => ⟨blk_alloc h.b0 o, blk_alloc h.b1 o, h.bel.alloc h.bel.size o⟩
/-- What the counter holds after k rounds. -/
def dvN : Nat → Int
  | 0 => -1
  | k + 1 => wrap64 (dvN k + 1)
theorem dvN_eq : ∀ k : Nat, k ≤ 1099511627776 → dvN k = (k : Int) - 1 := by
  intro k
  induction k with
  | zero => intro _; rfl
  | succ k ih =>
    intro h
    show wrap64 (dvN k + 1) = _
    rw [ih (by omega)]
    unfold wrap64
    omega
set_option maxRecDepth 100000 in
set_option maxHeartbeats 8000000 in
theorem sdepth_calls (l : List S62) (hc : Clo l) (cb : Nat) (n : Int) (w : World) (hctx : Ctx l cb w) (hll : (flat l).length ≤ 1048576) (n0 : 0 ≤ n) (n1 : n < ((flat l).length : Int)) :
    Calls Tryd.prog 76 #[.pointer (some ⟨cb, 0, none⟩), .int .i64 n] w fun e w' => e = .returned (.int .i64 (depthM l n)) ∧ Below w.heap.size w w' := by
  have HC := Aside0.mk hc
  have HLL := Aside0.mk hll
  have CW := Aside0.mk hctx
  have K3 := sabove_calls cb n (w.alloc (.cells #[.int .i64 (-1)] 3))
  clear hc hll hctx
  refine (callsIn_wide (n := 5)).1 ?_
  refine callsIn_of_wp_marks Tryd.func76 rfl trivial ?_ rfl
  simp only [Tryd.ntmps76, List.size_toArray, List.length_cons, List.length_nil, Nat.reduceAdd, Nat.reduceSub, Array.replicate_succ, Array.replicate_zero, List.push_toArray, List.append_toArray, List.nil_append, List.cons_append]
  gi_wp2_with (refine ⟨trivial, ?_⟩; gi_at_call 59; refine (callsIn_wide.2 K3).mono ?_; rintro e w1 ⟨rfl, rfl⟩)
  obtain ⟨W4, hW4⟩ : ∃ W4, W4 = (((w.alloc (.cells #[.int .i64 (-1)] 3)).alloc (.cells #[.pointer (some ⟨cb, 0, none⟩)] 99)).alloc (.cells #[.int .i64 n] 3)) := ⟨_, rfl⟩
  have hs4 : W4.heap.size = w.heap.size + 1 + 1 + 1 := by rw [hW4]; simp
  have hb4 : DB w cb (-1) W4 := ⟨by rw [hW4]; exact blk_alloc (blk_alloc (blk_new w _) _) _, by rw [hW4]; have h := blk_alloc (blk_new (w.alloc (.cells #[.int .i64 (-1)] 3)) (.cells #[.pointer (some ⟨cb, 0, none⟩)] 99)) (.cells #[.int .i64 n] 3); rw [World.size_alloc] at h; exact h, by rw [hW4]; exact (((Below.refl _ _).alloc (Nat.le_refl _) _).alloc (by simp) _).alloc (by simp; omega) _⟩
  have hx4 : W4.heap[w.heap.size + 1 + 1]? = some (.cells #[.int .i64 n] 3 (0, 0)) := by rw [hW4]; have h := blk_new ((w.alloc (.cells #[.int .i64 (-1)] 3)).alloc (.cells #[.pointer (some ⟨cb, 0, none⟩)] 99)) (.cells #[.int .i64 n] 3); rw [World.size_alloc, World.size_alloc] at h; exact h
  rw [← hW4]
  clear hW4 K3
  have H4 := Aside0.mk hb4
  have X4 := Aside0.mk hx4
  have S4 := Aside0.mk hs4
  clear hb4 hx4 hs4
  refine range_cell (gf := 75) (lb := #[.pointer (some ⟨w.heap.size + 1, 0, none⟩), .pointer (some ⟨w.heap.size + 1 + 1, 0, none⟩)]) (nb := w.heap.size + 1 + 1) rfl (fun args w => enters_ Tryd.func75 (by kernel_rfl) rfl args w) rfl
    (above_seq l HC.out cb (w.heap.size + 1) (w.heap.size + 1 + 1) n n0 n1 HLL.out 4) (by rw [S4.out]; omega) X4.out
    (fun p W => DB w cb (dvN p.length) W)
    (fun c p W => False)
    (fun p => DB.stays (by omega) (by rw [S4.out]; omega)) (fun p W h => ⟨h.b1, CW.out.below h.bel⟩)
    (fun c p W l_ o hl hlt h => h) H4.out ?a1 ?assign ?body ?done ?stop
  case assign =>
    intro rl x W K hK
    gi_wp2
    exact hK
  case body =>
    rintro rl p x W hB _
    have z0 : W.cell? ⟨w.heap.size, 0, none⟩ = some (.int .i64 (dvN p.length)) := (blk_cell hB.b0 0).trans rfl
    have f0 : W.frozen? ⟨w.heap.size, 0, none⟩ = false := blk_frozen hB.b0 0
    have HBD := Aside0.mk hB
    have hlen : (p ++ [x]).length = p.length + 1 := by simp
    have HLN := Aside0.mk hlen
    clear hB hlen
    gi_wp2
    refine ⟨⟨by simp, Below.heap_setCell W ⟨w.heap.size, 0, none⟩ _ _ (by show w.heap.size + 1 + 1 ≠ w.heap.size; omega), fun k hk1 hk2 => Below.heap_setCell W ⟨w.heap.size, 0, none⟩ _ k (by rw [S4.out] at hk1; show k ≠ w.heap.size; omega)⟩, ?_⟩
    show DB w cb (dvN (p ++ [x]).length) _
    rw [HLN.out]
    exact ⟨by have := blk_set HBD.out.b0 0 (.int .i64 (wrap64 (dvN p.length + 1))); show _ = some (Obj.cells #[.int .i64 (wrap64 (dvN p.length + 1))] 3 (0, 0)); simpa using this, blk_far HBD.out.b1 (show w.heap.size + 1 ≠ w.heap.size by omega) _, HBD.out.bel.trans ((Below.refl _ _).setCell (p := ⟨w.heap.size, 0, none⟩) (Nat.le_refl _) _)⟩
  case done =>
    rintro D p W hD rfl hB hK
    have z0 : W.cell? ⟨w.heap.size, 0, none⟩ = some (.int .i64 (dvN (chain l ((flat l).length + 1) n).length)) := (blk_cell hB.b0 0).trans rfl
    have ED : Aside0 (dvN (chain l ((flat l).length + 1) n).length = depthM l n) := ⟨by
      have := (depthM_bounds (l := l) (n := n)).2
      unfold depthM at this ⊢
      have h2 := HLL.out
      exact dvN_eq _ (by omega)⟩
    gi_wp2
    have hE := hB.put D (.deferred none) (by rw [S4.out] at hD; omega) (blk_lt' hK)
    refine ⟨by simp, .inl ⟨_, _, rfl, run_takeDeferred hK, ?_⟩⟩
    refine ⟨_, results_tmp rfl _ _ _, ?_, hE.bel⟩
    rw [← ED.out]
    rfl
  case stop =>
    rintro D c p W _ _ h _
    exact h.elim
end Go.Proofs.YtfgglniigeagdaaDoor.Cn
namespace Go.Proofs.YtfgglniigeagdaaDoor.Cn
set_option linter.unusedSimpArgs false
set_option linter.unusedVariables false
open Go.RowKit Go.Maps Go.Proofs.YtfgglniigeagdaaDoorW.PrintWords Go.Proofs.YtfgglniigeagdaaDoorW.PrintLast Go.Proofs.YtfgglniigeagdaaDoorW.PrintMore Go.Proofs.YtfgglniigeagdaaDoor.QD
set_option maxRecDepth 100000 in
set_option maxHeartbeats 4000000 in
theorem closed_calls2 (A : Option Addr) (c : Nat) (l : List S62) (w : World) (hr : Kd.C k62 w A l.length l) (hcap : l.length ≤ c) (hl : tcount l ≤ 1099511627776) (hl2 : l.length ≤ 1099511627776) (hq : ∀ r ∈ l, ∀ s ∈ r.f0, SOk (fun _ => True) s) :
    Calls Tryd.prog 25 #[.slice A l.length c] w fun e w' => (∃ (n : Int) (er : Int), e = .returned (.tuple #[.int .i64 n, .int .i64 er]) ∧ CloOut l n er) ∧ Below w.heap.size w w' := by
  have HR := Aside0.mk hr
  have HL := Aside0.mk hl
  have HQ := Aside0.mk hq
  have CS0 : CS w 0 (w.alloc (.cells #[.int .i64 0] 3)) := ⟨(Below.refl _ _).alloc (Nat.le_refl _) _, blk_new w _⟩
  clear hr hl hq
  go_enter Tryd.func25, Tryd.ntmps25
  go_wp2_with fail
  go_loopw [15, 4] (fun i n W => ∃ (j : Nat), i = .int .i64 j ∧ j ≤ l.length ∧ n = .int .i64 (tcount (l.take j) : Nat) ∧ CS w (tcount (l.take j) : Nat) W ∧ Clo (l.take j)) (fun i _ _ => l.length - (intOf i).toNat)
  case atStart => exact ⟨0, rfl, Nat.zero_le _, rfl, CS0, fun j r h => by simp at h⟩
  case round =>
    clear CS0
    obtain ⟨j, rfl, hj, rfl, hcs, hclo⟩ := hrel
    have C0 := Aside0.mk hcs
    have HCLO := Aside0.mk hclo
    clear hcs hclo
    by_cases hlt : j < l.length
    · obtain ⟨wo, rfl⟩ : ∃ wo : World, wo = wr := ⟨_, rfl⟩
      obtain ⟨ad, Ar, cr, rfl, d0, d1, hrc, hrC⟩ := at_T62 HR.out (j : Int) (by omega) (by omega)
      have HRJ := Aside0.mk (rd_RT_at l j hlt)
      simp only [Int.toNat_natCast] at d0 d1
      obtain ⟨r, hre⟩ : ∃ r, r = rd_T62 l (j : Int) := ⟨_, rfl⟩
      rw [← hre] at d0 d1 hrc hrC HRJ
      clear hre
      replace d0 := (C0.out.bel.cell (World.block_lt_of_cell? w _ d0)).trans d0
      replace d1 := (C0.out.bel.cell (World.block_lt_of_cell? w _ d1)).trans d1
      have HRC := Aside0.mk hrC
      obtain ⟨n0, hn0⟩ : ∃ n0 : Nat, n0 = tcount (l.take j) := ⟨_, rfl⟩
      have HN0 := Aside0.mk hn0
      rw [← hn0] at C0 ⊢
      have htj : n0 + r.f0.length ≤ 1099511627776 := by have := tcount_take_le l j r HRJ.out; have := HL.out; omega
      clear hrC hn0
      have C1 := Aside0.mk (C0.out.alloc (.cells #[.slice Ar r.f0.length cr, .bool r.f1] 62))
      have B1 := Aside0.mk (blk_new wo (.cells #[.slice Ar r.f0.length cr, .bool r.f1] 62))
      have en1 : (wo.alloc (.cells #[.slice Ar r.f0.length cr, .bool r.f1] 62)).cell? ⟨w.heap.size, 0, none⟩ = some (.int .i64 n0) := (blk_cell C1.out.en 0).trans rfl
      have fz1 : (wo.alloc (.cells #[.slice Ar r.f0.length cr, .bool r.f1] 62)).frozen? ⟨w.heap.size, 0, none⟩ = false := blk_frozen C1.out.en 0
      have hwlt : w.heap.size < wo.heap.size := C0.out.lt
      have hwr : wrap64 ((n0 : Int) + (r.f0.length : Int)) = (n0 : Int) + (r.f0.length : Int) := by unfold wrap64; omega
      have C2a : CS w ((n0 + r.f0.length : Nat) : Int) (wo.setCell ⟨w.heap.size, 0, none⟩ (.int .i64 ((n0 : Int) + (r.f0.length : Int)))) := ⟨C0.out.bel.trans ((Below.refl w.heap.size _).setCell (Nat.le_refl w.heap.size) _), by have := blk_set C0.out.en 0 (.int .i64 ((n0 : Int) + (r.f0.length : Int))); simpa using this⟩
      have C2 := Aside0.mk (C2a.alloc (.cells #[.slice Ar r.f0.length cr, .bool r.f1] 62))
      clear C2a
      go_wp2_with fail
      go_loopw [27, 4] (fun i n W => ∃ (k : Nat), i = .int .i64 k ∧ k ≤ r.f0.length ∧ n = .int .i64 ((n0 + k : Nat) : Int) ∧ CS w ((n0 + r.f0.length : Nat) : Int) W ∧ ∀ s ∈ r.f0.take k, typeOk ((n0 + r.f0.length : Nat) : Int) s = true) (fun i _ _ => r.f0.length - (intOf i).toNat)
      case atStart => exact ⟨0, rfl, Nat.zero_le _, rfl, C2.out, fun s h => by simp at h⟩
      case round =>
        clear en1 fz1 hwlt d0 d1
        obtain ⟨k, rfl, hk, rfl, hcs, hok⟩ := hrel
        have I0 := Aside0.mk hcs
        have HOK := Aside0.mk hok
        clear hcs hok
        by_cases hlk : k < r.f0.length
        · obtain ⟨wi, rfl⟩ : ∃ wi : World, wi = wr := ⟨_, rfl⟩
          obtain ⟨ae, A1, c1, A3, c3, A4, c4, A5, c5, ea, d0, d1, d2, d3, d4, d5, n1, r1, n3, r3, n4, r4, n5, r5⟩ := at_T53 HRC.out (k : Int) (by omega) (by omega)
          have HXK := Aside0.mk (rd_ST_at' r.f0 k hlk)
          cases ea
          simp only [Int.toNat_natCast] at d0 d1 d2 d3 d4 d5
          obtain ⟨x, hx⟩ : ∃ x, x = rd_T53 r.f0 (k : Int) := ⟨_, rfl⟩
          rw [← hx] at d0 d1 d2 d3 d4 d5 n1 r1 n3 r3 n4 r4 n5 r5 HXK
          clear hx
          replace d0 := (I0.out.bel.cell (World.block_lt_of_cell? w _ d0)).trans d0
          replace d1 := (I0.out.bel.cell (World.block_lt_of_cell? w _ d1)).trans d1
          replace d2 := (I0.out.bel.cell (World.block_lt_of_cell? w _ d2)).trans d2
          replace d3 := (I0.out.bel.cell (World.block_lt_of_cell? w _ d3)).trans d3
          replace d4 := (I0.out.bel.cell (World.block_lt_of_cell? w _ d4)).trans d4
          replace d5 := (I0.out.bel.cell (World.block_lt_of_cell? w _ d5)).trans d5
          have R1 := Aside0.mk r1
          have R3 := Aside0.mk r3
          have R4 := Aside0.mk r4
          have R5 := Aside0.mk r5
          have SI := Aside0.mk (HQ.out r (List.mem_of_getElem? HRJ.out) x (List.mem_of_getElem? HXK.out))
          have hx1 : x.f1.length ≤ 17592186044416 := by have := SI.out.l1; omega
          clear r1 r3 r4 r5
          have J1 := Aside0.mk ((I0.out.alloc (.cells #[.bool x.f0, .slice A1 x.f1.length c1, .int .i64 x.f2.f0, .slice A3 x.f2.f1.length c3, .slice A4 x.f2.f2.length c4, .slice A5 x.f2.f3.length c5] 53)).alloc (.cells #[.bool true] 4))
          have BX := Aside0.mk (blk_alloc (blk_new wi (.cells #[.bool x.f0, .slice A1 x.f1.length c1, .int .i64 x.f2.f0, .slice A3 x.f2.f1.length c3, .slice A4 x.f2.f2.length c4, .slice A5 x.f2.f3.length c5] 53)) (.cells #[.bool true] 4))
          have BO : Aside0 (((wi.alloc (.cells #[.bool x.f0, .slice A1 x.f1.length c1, .int .i64 x.f2.f0, .slice A3 x.f2.f1.length c3, .slice A4 x.f2.f2.length c4, .slice A5 x.f2.f3.length c5] 53)).alloc (.cells #[.bool true] 4)).heap[wi.heap.size + 1]? = some (.cells #[.bool true] 4 (0, 0))) := ⟨by have h_ := blk_new (wi.alloc (.cells #[.bool x.f0, .slice A1 x.f1.length c1, .int .i64 x.f2.f0, .slice A3 x.f2.f1.length c3, .slice A4 x.f2.f2.length c4, .slice A5 x.f2.f3.length c5] 53)) (.cells #[.bool true] 4); rw [World.size_alloc] at h_; exact h_⟩
          have WLT : Aside0 (w.heap.size < wi.heap.size) := ⟨I0.out.lt⟩
          go_wp2_with fail
          go_loopw [34] (fun i W => ∃ (q : Nat), i = .int .i64 q ∧ q ≤ x.f1.length ∧ CS w ((n0 + r.f0.length : Nat) : Int) W ∧ W.heap[wi.heap.size]? = some (.cells #[.bool x.f0, .slice A1 x.f1.length c1, .int .i64 x.f2.f0, .slice A3 x.f2.f1.length c3, .slice A4 x.f2.f2.length c4, .slice A5 x.f2.f3.length c5] 53 (0, 0)) ∧ W.heap[wi.heap.size + 1]? = some (.cells #[.bool (supOk (x.f1.take q))] 4 (0, 0))) (fun i _ => x.f1.length - (intOf i).toNat)
          case atStart => exact ⟨0, rfl, Nat.zero_le _, J1.out, BX.out, BO.out⟩
          case round =>
            obtain ⟨q, rfl, hq, hcs, hbx, hbo⟩ := hrel
            have L0 := Aside0.mk hcs
            have LX := Aside0.mk hbx
            have LO := Aside0.mk hbo
            clear hcs hbx hbo d0 d1 d2 d3 d4 d5
            by_cases hlq : q < x.f1.length
            · obtain ⟨ws, rfl⟩ : ∃ ws : World, ws = wr := ⟨_, rfl⟩
              obtain ⟨ai, y, rfl, hy, hc⟩ := at_int' R1.out q hlq
              have HY := Aside0.mk hy
              replace hc := (L0.out.bel.cell (World.block_lt_of_cell? w _ hc)).trans hc
              have ST := Aside0.mk (supOk_take x.f1 q y hy)
              clear hy
              obtain ⟨b, hb⟩ : ∃ b, b = supOk (x.f1.take q) := ⟨_, rfl⟩
              rw [← hb] at LO ST
              clear hb
              have e0 : ws.cell? ⟨wi.heap.size + 1, 0, none⟩ = some (.bool b) := (blk_cell LO.out 0).trans rfl
              have f0 : ws.frozen? ⟨wi.heap.size + 1, 0, none⟩ = false := blk_frozen LO.out 0
              rcases hbb : b with _ | _
              · subst hbb
                go_wp2_with fail
                go_roundw
                case rel =>
                  have e_ : supOk (x.f1.take (q + 1)) = false := by rw [ST.out]; rfl
                  refine ⟨q + 1, by go_num, by omega, L0.out.set (by have := WLT.out; omega) _, (Below.heap_setCell ws ⟨wi.heap.size + 1, 0, none⟩ _ _ (by simp)).trans LX.out, ?_⟩
                  rw [e_]
                  have := blk_set LO.out 0 (.bool false)
                  simpa using this
                case measure => simp [intOf]; omega
              · subst hbb
                by_cases hy0 : 0 ≤ y
                · go_wp2_with fail
                  go_roundw
                  case rel =>
                    have e_ : supOk (x.f1.take (q + 1)) = true := by rw [ST.out]; simp [hy0]
                    refine ⟨q + 1, by go_num, by omega, L0.out.set (by have := WLT.out; omega) _, (Below.heap_setCell ws ⟨wi.heap.size + 1, 0, none⟩ _ _ (by simp)).trans LX.out, ?_⟩
                    rw [e_]
                    have := blk_set LO.out 0 (.bool true)
                    simpa using this
                  case measure => simp [intOf]; omega
                · go_wp2_with fail
                  go_roundw
                  case rel =>
                    have e_ : supOk (x.f1.take (q + 1)) = false := by rw [ST.out]; simp [hy0]
                    refine ⟨q + 1, by go_num, by omega, L0.out.set (by have := WLT.out; omega) _, (Below.heap_setCell ws ⟨wi.heap.size + 1, 0, none⟩ _ _ (by simp)).trans LX.out, ?_⟩
                    rw [e_]
                    have := blk_set LO.out 0 (.bool false)
                    simpa using this
                  case measure => simp [intOf]; omega
            · obtain rfl : q = x.f1.length := by omega
              rw [List.take_length] at LO
              clear hq hlq
              obtain ⟨ws, rfl⟩ : ∃ ws : World, ws = wr := ⟨_, rfl⟩
              have x0 : ws.cell? ⟨wi.heap.size, 0, none⟩ = some (.bool x.f0) := (blk_cell LX.out 0).trans rfl
              have x1 : ws.cell? ⟨wi.heap.size, 1, none⟩ = some (.slice A1 x.f1.length c1) := (blk_cell LX.out 1).trans rfl
              have x2 : ws.cell? ⟨wi.heap.size, 2, none⟩ = some (.int .i64 x.f2.f0) := (blk_cell LX.out 2).trans rfl
              have x3 : ws.cell? ⟨wi.heap.size, 3, none⟩ = some (.slice A3 x.f2.f1.length c3) := (blk_cell LX.out 3).trans rfl
              have x4 : ws.cell? ⟨wi.heap.size, 4, none⟩ = some (.slice A4 x.f2.f2.length c4) := (blk_cell LX.out 4).trans rfl
              have x5 : ws.cell? ⟨wi.heap.size, 5, none⟩ = some (.slice A5 x.f2.f3.length c5) := (blk_cell LX.out 5).trans rfl
              go_wp2_with fail
              have KB := okCb (wi.heap.size + 1) w.heap.size ws.heap.size ((n0 + r.f0.length : Nat) : Int) (by have := WLT.out; omega) (blk_lt LO.out) L0.out.lt
              refine (turned_calls KB w (supOk x.f1) x.f0 x.f2.f0 A1 c1 x.f1 A3 c3 x.f2.f1 A4 c4 x.f2.f2 A5 c5 x.f2.f3 _ (Nat.le_refl _) L0.out.bel (by intro k_ e_; injection e_ with e_; have := WLT.out; omega) ⟨LO.out, L0.out.en⟩ R1.out R3.out R4.out R5.out (fun _ _ => trivial) (fun _ _ _ => trivial) (fun _ _ _ => trivial) (fun _ _ _ => trivial) SI.out.l1 SI.out.l2 SI.out.l3 SI.out.l4).mono ?_
              rintro e w3 ⟨v1, v2, v3, v4, rfl, _, _, _, _, hst, hgr⟩
              have S3 : OkSt (wi.heap.size + 1) w.heap.size ((n0 + r.f0.length : Nat) : Int) (typeOk ((n0 + r.f0.length : Nat) : Int) x) w3 := hst
              have P3 : Aside0 (CS w ((n0 + r.f0.length : Nat) : Int) w3) := ⟨⟨L0.out.bel.trans (bel_of_grown hgr L0.out.bel.size (fun k_ e_ => by injection e_ with e_; have := WLT.out; omega)), S3.en⟩⟩
              have ec : w3.cell? ⟨wi.heap.size + 1, 0, none⟩ = some (.bool (typeOk ((n0 + r.f0.length : Nat) : Int) x)) := (blk_cell S3.ok 0).trans rfl
              clear hst hgr S3 KB
              obtain ⟨b, hb⟩ : ∃ b, b = typeOk ((n0 + r.f0.length : Nat) : Int) x := ⟨_, rfl⟩
              have HB := Aside0.mk hb
              rw [← hb] at ec
              clear hb
              rcases hbb : b with _ | _
              · subst hbb
                go_wp2_with fail
                go_ret2
                refine ⟨⟨_, 50, rfl, Or.inr ⟨n0 + k, ⟨j, k, r, x, HRJ.out, HXK.out, by rw [HN0.out], by rw [tcount_take l j r HRJ.out, ← HN0.out]; exact HB.out.symm, ?_, ?_⟩, by go_num, rfl⟩⟩, P3.out.bel⟩
                · intro j' r' hj' hr' s' hs'
                  have h2 := HCLO.out j' r' (by rw [List.getElem?_take, if_pos hj']; exact hr') s' hs'
                  rw [List.take_take, show min (j' + 1) j = j' + 1 by omega] at h2
                  exact h2
                · intro i' s' hi' hs'
                  rw [tcount_take l j r HRJ.out, ← HN0.out]
                  exact HOK.out s' (List.mem_of_getElem? (by rw [List.getElem?_take, if_pos hi']; exact hs'))
              · subst hbb
                go_wp2_with fail
                go_roundw
                case rel =>
                  refine ⟨k + 1, by go_num, by omega, by go_num, P3.out, fun s hs => ?_⟩
                  rw [List.take_add_one, HXK.out] at hs
                  rcases List.mem_append.1 hs with hs | hs
                  · exact HOK.out s hs
                  · simp at hs
                    subst hs
                    exact HB.out.symm
                case measure => simp [intOf]; omega
        · obtain rfl : k = r.f0.length := by omega
          rw [List.take_length] at HOK
          clear hk hlk
          go_wp2_with fail
          go_roundw
          case rel =>
            refine ⟨j + 1, by go_num, by omega, by rw [tcount_take l j r HRJ.out, ← HN0.out], by rw [tcount_take l j r HRJ.out, ← HN0.out]; exact I0.out, fun i r' h' => ?_⟩
            rw [List.getElem?_take] at h'
            split at h'
            · rename_i hi
              rcases Nat.lt_or_ge i j with h1 | h1
              · have h2 := HCLO.out i r' (by rw [List.getElem?_take, if_pos h1]; exact h')
                rw [List.take_take] at h2 ⊢
                rw [show min (i + 1) j = i + 1 by omega] at h2
                rw [show min (i + 1) (j + 1) = i + 1 by omega]
                exact h2
              · obtain rfl : i = j := by omega
                rw [HRJ.out] at h'
                injection h' with h'
                subst h'
                rw [List.take_take, Nat.min_self, tcount_take l i r HRJ.out, ← HN0.out]
                exact HOK.out
            · cases h'
          case measure => simp [intOf]; omega
    · obtain rfl : j = l.length := by omega
      rw [List.take_length] at HCLO
      clear hj hlt
      go_wp2_with fail
      go_ret2
      exact ⟨⟨0, 0, rfl, Or.inl ⟨HCLO.out, rfl, rfl⟩⟩, C0.out.bel⟩
set_option maxRecDepth 100000 in
set_option maxHeartbeats 4000000 in
theorem sval_plain (p : Option Addr) (l : List S62) (a b : S74) (w : World) (h5 : ¬ (a.f0 = 5 ∧ b.f0 = 5)) :
    Calls Tryd.prog 56 #[.pointer p, .agg #[.int .i64 a.f0, .bool a.f1, .int .i64 a.f2], .agg #[.int .i64 b.f0, .bool b.f1, .int .i64 b.f2]] w fun e w' => e = .returned (.bool (valM l a b)) ∧ Below w.heap.size w w' := by
  obtain ⟨x0, x1, x2⟩ := a
  obtain ⟨y0, y1, y2⟩ := b
  dsimp only at h5 ⊢
  have ba : Below w.heap.size w ((w.alloc (.cells #[.int .i64 x0, .bool x1, .int .i64 x2] 74)).alloc (.cells #[.int .i64 y0, .bool y1, .int .i64 y2] 74)) := ((Below.refl _ _).alloc (Nat.le_refl _) _).alloc (by simp) _
  have BA := Aside0.mk ba
  clear ba
  by_cases h1 : x0 = y0
  · subst h1
    have h4 : ¬ x0 = 5 := fun h => h5 ⟨h, h⟩
    by_cases h2 : 1 ≤ x0
    · by_cases h3 : x0 ≤ 7
      · have EM : Aside0 (valM l ⟨x0, x1, x2⟩ ⟨x0, y1, y2⟩ = true) := ⟨by simp [valM, h2, h3, h4]⟩
        have hlt : ¬ x0 < 1 := by omega
        have hgt : ¬ 7 < x0 := by omega
        have hne : (x0 != 5) = true := by simp [h4]
        clear h5
        go_enter Tryd.func56, Tryd.ntmps56
        go_wp2_with fail
        go_ret
        exact ⟨by rw [EM.out]; rfl, BA.out⟩
      · have EM : Aside0 (valM l ⟨x0, x1, x2⟩ ⟨x0, y1, y2⟩ = false) := ⟨by simp [valM, h2, h3]⟩
        have hlt : ¬ x0 < 1 := by omega
        have hgt : 7 < x0 := by omega
        clear h5
        go_enter Tryd.func56, Tryd.ntmps56
        go_wp2_with fail
        go_ret
        exact ⟨by rw [EM.out]; rfl, BA.out⟩
    · have EM : Aside0 (valM l ⟨x0, x1, x2⟩ ⟨x0, y1, y2⟩ = false) := ⟨by simp [valM, h2]⟩
      have hlt : x0 < 1 := by omega
      clear h5
      go_enter Tryd.func56, Tryd.ntmps56
      go_wp2_with fail
      go_ret
      exact ⟨by rw [EM.out]; rfl, BA.out⟩
  · have EM : Aside0 (valM l ⟨x0, x1, x2⟩ ⟨y0, y1, y2⟩ = false) := ⟨by simp [valM, h1]⟩
    have e1 : (x0 != y0) = true := by simp [h1]
    clear h5
    go_enter Tryd.func56, Tryd.ntmps56
    go_wp2_with fail
    go_ret
    exact ⟨by rw [EM.out]; rfl, BA.out⟩
set_option maxRecDepth 100000 in
set_option maxHeartbeats 4000000 in
theorem sval_calls (l : List S62) (hc : Clo l) (cb : Nat) (a b : S74) (w : World) (hctx : Ctx l cb w) (hll : (flat l).length ≤ 1048576) :
    Calls Tryd.prog 56 #[.pointer (some ⟨cb, 0, none⟩), .agg #[.int .i64 a.f0, .bool a.f1, .int .i64 a.f2], .agg #[.int .i64 b.f0, .bool b.f1, .int .i64 b.f2]] w fun e w' => e = .returned (.bool (valM l a b)) ∧ Below w.heap.size w w' := by
  by_cases h5 : a.f0 = 5 ∧ b.f0 = 5
  rotate_left
  · exact sval_plain _ l a b w h5
  obtain ⟨x0, x1, x2⟩ := a
  obtain ⟨y0, y1, y2⟩ := b
  dsimp only at h5 ⊢
  obtain ⟨rfl, rfl⟩ := h5
  have ba : Below w.heap.size w ((w.alloc (.cells #[.int .i64 5, .bool x1, .int .i64 x2] 74)).alloc (.cells #[.int .i64 5, .bool y1, .int .i64 y2] 74)) := ((Below.refl _ _).alloc (Nat.le_refl _) _).alloc (by simp) _
  have BA := Aside0.mk ba
  have K := sheap_calls l hc cb x2 y2 _ (hctx.below ba) hll
  obtain ⟨h, hh⟩ : ∃ h, h = heapM l x2 y2 := ⟨_, rfl⟩
  have EM : Aside0 (valM l ⟨5, x1, x2⟩ ⟨5, y1, y2⟩ = (h && (!x1 || y1))) := ⟨by rw [hh]; simp [valM]⟩
  rw [← hh] at K
  clear hctx hc hll ba hh
  go_enter Tryd.func56, Tryd.ntmps56
  go_wp2_with fail
  refine K.mono ?_
  rintro e w1 ⟨rfl, hb⟩
  have B1 : Aside0 (Below w.heap.size w w1) := ⟨BA.out.trans (hb.mono BA.out.size)⟩
  have q0 := blk_below (blk_alloc (blk_new w (.cells #[.int .i64 5, .bool x1, .int .i64 x2] 74)) (.cells #[.int .i64 5, .bool y1, .int .i64 y2] 74)) hb
  have q1 : w1.heap[w.heap.size + 1]? = some (.cells #[.int .i64 5, .bool y1, .int .i64 y2] 74 (0, 0)) := by have h_ := blk_below (blk_new (w.alloc (.cells #[.int .i64 5, .bool x1, .int .i64 x2] 74)) (.cells #[.int .i64 5, .bool y1, .int .i64 y2] 74)) hb; rw [World.size_alloc] at h_; exact h_
  have z0 : w1.cell? ⟨w.heap.size, 1, none⟩ = some (.bool x1) := (blk_cell q0 1).trans rfl
  have z1 : w1.cell? ⟨w.heap.size + 1, 1, none⟩ = some (.bool y1) := (blk_cell q1 1).trans rfl
  clear hb K q0 q1
  cases h <;> cases x1 <;> cases y1 <;>
    (go_wp2_with fail
     go_ret
     exact ⟨by rw [EM.out]; rfl, B1.out⟩)
set_option maxRecDepth 100000 in
set_option maxHeartbeats 8000000 in
theorem svals_calls (hb_ : Nat) (l : List S62) (Aa : Option Addr) (ca : Nat) (us : List S74) (Ab : Option Addr) (cb : Nat) (vs : List S74) (w : World) (hl : Ctx l hb_ w) (hll : (flat l).length ≤ 1048576) (hc : Clo l) (hA : Kd.C k74 w Aa us.length us) (hB : Kd.C k74 w Ab vs.length vs) (hn : us.length ≤ 1048576) :
    Calls Tryd.prog 77 #[.pointer (some ⟨hb_, 0, none⟩), .slice Aa us.length ca, .slice Ab vs.length cb] w fun e w' => e = .returned (.bool (valsM l us vs)) ∧ Below w.heap.size w w' := by
  have HL := Aside0.mk hl
  have HC := Aside0.mk hc
  have HLL := Aside0.mk hll
  have HA := Aside0.mk hA
  have HB := Aside0.mk hB
  clear hl hll hc hA hB
  by_cases hlen : us.length = vs.length
  rotate_left
  · have EM : Aside0 (valsM l us vs = false) := ⟨by simp [valsM, hlen]⟩
    have e1 : ((us.length : Int) != (vs.length : Int)) = true := by simp; omega
    go_enter Tryd.func77, Tryd.ntmps77
    go_wp2_with fail
    go_ret
    exact ⟨by rw [EM.out]; rfl, Below.refl _ _⟩
  have EV : Aside0 (valsM l us vs = (us.zip vs).all fun p => valM l p.1 p.2) := ⟨by simp [valsM, hlen]⟩
  obtain ⟨n, hnn⟩ : ∃ n, n = us.length := ⟨_, rfl⟩
  have NA := Aside0.mk hnn
  have NB : Aside0 (n = vs.length) := ⟨hnn.trans hlen⟩
  rw [← hlen, ← hnn]
  rw [← hnn] at hn
  rw [← NA.out] at HA
  rw [← NB.out] at HB
  clear hnn hlen
  go_enter Tryd.func77, Tryd.ntmps77
  go_wp2_with fail
  go_loopw [15] (fun i W => ∃ (k : Nat), i = .int .i64 k ∧ k ≤ n ∧ ((us.zip vs).take k).all (fun p => valM l p.1 p.2) = true ∧ Below w.heap.size w W) (fun i _ => n - (intOf i).toNat)
  case atStart => exact ⟨0, rfl, Nat.zero_le _, by simp, Below.refl _ _⟩
  case round =>
    obtain ⟨k, rfl, hk, hall, hbw⟩ := hrel
    have W0 := Aside0.mk hbw
    have ALL := Aside0.mk hall
    clear hall hbw
    have k0 : (0 : Int) ≤ (k : Int) := Int.natCast_nonneg k
    by_cases hlk : k < n
    · obtain ⟨aa, ea, d0, d1, d2⟩ := at_T74 HA.out (k : Int) k0 (by omega)
      obtain ⟨ab, eb, f0, f1, f2⟩ := at_T74 HB.out (k : Int) k0 (by omega)
      subst ea
      subst eb
      have XA : Aside0 (us[k]? = some (rd_T74 us (k : Int))) := ⟨by unfold rd_T74; rw [Int.toNat_natCast, List.getD_eq_getElem?_getD, List.getElem?_eq_getElem (by have := NA.out; omega)]; rfl⟩
      have XB : Aside0 (vs[k]? = some (rd_T74 vs (k : Int))) := ⟨by unfold rd_T74; rw [Int.toNat_natCast, List.getD_eq_getElem?_getD, List.getElem?_eq_getElem (by have := NB.out; omega)]; rfl⟩
      obtain ⟨x, hx⟩ : ∃ x, x = rd_T74 us (k : Int) := ⟨_, rfl⟩
      obtain ⟨y, hy⟩ : ∃ y, y = rd_T74 vs (k : Int) := ⟨_, rfl⟩
      rw [← hx] at d0 d1 d2 XA
      rw [← hy] at f0 f1 f2 XB
      clear hx hy
      simp only [Int.toNat_natCast] at d0 d1 d2 f0 f1 f2
      replace d0 := (W0.out.cell (World.block_lt_of_cell? w _ d0)).trans d0
      replace d1 := (W0.out.cell (World.block_lt_of_cell? w _ d1)).trans d1
      replace d2 := (W0.out.cell (World.block_lt_of_cell? w _ d2)).trans d2
      replace f0 := (W0.out.cell (World.block_lt_of_cell? w _ f0)).trans f0
      replace f1 := (W0.out.cell (World.block_lt_of_cell? w _ f1)).trans f1
      replace f2 := (W0.out.cell (World.block_lt_of_cell? w _ f2)).trans f2
      have kl : (k : Int) < (n : Int) := by omega
      go_wp2_with fail
      refine start_ (n := 11) (S := fun w' => w'.cell? (aa.add (k * 3)) = some (.int .i64 x.f0) ∧ w'.cell? ⟨(aa.add (k * 3)).block, (aa.add (k * 3)).off + 1, none⟩ = some (.bool x.f1) ∧ w'.cell? ⟨(aa.add (k * 3)).block, (aa.add (k * 3)).off + 2, none⟩ = some (.int .i64 x.f2) ∧ w'.cell? (ab.add (k * 3)) = some (.int .i64 y.f0) ∧ w'.cell? ⟨(ab.add (k * 3)).block, (ab.add (k * 3)).off + 1, none⟩ = some (.bool y.f1) ∧ w'.cell? ⟨(ab.add (k * 3)).block, (ab.add (k * 3)).off + 2, none⟩ = some (.int .i64 y.f2)) (ds := []) #[false, false, false, false, false, false, false, false, false, false, false] (by kernel_rfl) rfl rfl ⟨d0, d1, d2, f0, f1, f2⟩ (fun hHeld => ?_)
      have BD : Aside0 (Below w.heap.size w wr.drew) := ⟨W0.out.drew⟩
      replace d0 : wr.drew.cell? _ = _ := d0
      replace d1 : wr.drew.cell? _ = _ := d1
      replace d2 : wr.drew.cell? _ = _ := d2
      replace f0 : wr.drew.cell? _ = _ := f0
      replace f1 : wr.drew.cell? _ = _ := f1
      replace f2 : wr.drew.cell? _ = _ := f2
      generalize wr.drew = w5 at BD d0 d1 d2 f0 f1 f2 hHeld ⊢
      refine pure_ (i := 0) (N := some 18) (v := ?_) (a' := ?_) #[true, false, false, false, false, false, false, false, false, false, false] rfl rfl (by kernel_rfl) (fun _ _ _ h => h) (Or.inl ⟨by rfl, ?_⟩) ?_ ?_
      rotate_left
      · intro w'
        go_simp
        with_reducible rfl
      rotate_left
      · simp only [Act.put, List.setIfInBounds_toArray, List.set_cons_zero, List.set_cons_succ, i64_w, i32_w]
        rfl
      refine pure_ (i := 1) (N := some 19) (v := ?_) (a' := ?_) #[true, true, false, false, false, false, false, false, false, false, false] rfl rfl (by kernel_rfl) (fun _ _ _ h => h) (Or.inl ⟨by rfl, ?_⟩) ?_ ?_
      rotate_left
      · intro w'
        go_simp
        with_reducible rfl
      rotate_left
      · simp only [Act.put, List.setIfInBounds_toArray, List.set_cons_zero, List.set_cons_succ, i64_w, i32_w]
        rfl
      refine pure_ (i := 2) (N := some 20) (v := ?_) (a' := ?_) #[true, true, true, false, false, false, false, false, false, false, false] rfl rfl (by kernel_rfl) (fun _ _ _ h => h) (Or.inl ⟨by rfl, ?_⟩) ?_ ?_
      rotate_left
      · intro w'
        go_simp
        with_reducible rfl
      rotate_left
      · simp only [Act.put, List.setIfInBounds_toArray, List.set_cons_zero, List.set_cons_succ, i64_w, i32_w]
        rfl
      refine pure_ (i := 3) (N := some 21) (v := ?_) (a' := ?_) #[true, true, true, true, false, false, false, false, false, false, false] rfl rfl (by kernel_rfl) (fun _ _ _ h => h) (Or.inl ⟨by rfl, ?_⟩) ?_ ?_
      rotate_left
      · intro w'
        go_simp
        with_reducible rfl
      rotate_left
      · simp only [Act.put, List.setIfInBounds_toArray, List.set_cons_zero, List.set_cons_succ, i64_w, i32_w]
        rfl
      refine pure_ (i := 5) (N := some 23) (v := ?_) (a' := ?_) #[true, true, true, true, false, true, false, false, false, false, false] rfl rfl (by kernel_rfl) (fun _ _ _ h => h) (Or.inl ⟨by rfl, ?_⟩) ?_ ?_
      rotate_left
      · intro w'
        go_simp
        with_reducible rfl
      rotate_left
      · simp only [Act.put, List.setIfInBounds_toArray, List.set_cons_zero, List.set_cons_succ, i64_w, i32_w]
        rfl
      refine pure_ (i := 6) (N := some 24) (v := ?_) (a' := ?_) #[true, true, true, true, false, true, true, false, false, false, false] rfl rfl (by kernel_rfl) (fun _ _ _ h => h) (Or.inl ⟨by rfl, ?_⟩) ?_ ?_
      rotate_left
      · intro w'
        go_simp
        with_reducible rfl
      rotate_left
      · simp only [Act.put, List.setIfInBounds_toArray, List.set_cons_zero, List.set_cons_succ, i64_w, i32_w]
        rfl
      refine pure_ (i := 7) (N := some 25) (v := ?_) (a' := ?_) #[true, true, true, true, false, true, true, true, false, false, false] rfl rfl (by kernel_rfl) (fun _ _ _ h => h) (Or.inl ⟨by rfl, ?_⟩) ?_ ?_
      rotate_left
      · intro w'
        go_simp
        with_reducible rfl
      rotate_left
      · simp only [Act.put, List.setIfInBounds_toArray, List.set_cons_zero, List.set_cons_succ, i64_w, i32_w]
        rfl
      refine take_ (i := 4) (N := some 22) (v := ?_) (a' := ?_) #[true, true, true, true, true, true, true, true, false, false, false] rfl rfl (by kernel_rfl) (fun _ _ _ h => h) (Or.inl ⟨by rfl, ?_⟩) hHeld ?_ ?_
      rotate_left
      · rintro w' ⟨s0, s1, s2, s3, s4, s5⟩
        go_simp
        with_reducible rfl
      rotate_left
      · simp only [Act.put, List.setIfInBounds_toArray, List.set_cons_zero, List.set_cons_succ, i64_w, i32_w]
        rfl
      refine take_ (i := 8) (N := some 26) (v := ?_) (a' := ?_) #[true, true, true, true, true, true, true, true, true, false, false] rfl rfl (by kernel_rfl) (fun _ _ _ h => h) (Or.inl ⟨by rfl, ?_⟩) hHeld ?_ ?_
      rotate_left
      · rintro w' ⟨s0, s1, s2, s3, s4, s5⟩
        go_simp
        with_reducible rfl
      rotate_left
      · simp only [Act.put, List.setIfInBounds_toArray, List.set_cons_zero, List.set_cons_succ, i64_w, i32_w]
        rfl
      refine one_ (i := 9) (N := some 27) #[true, true, true, true, true, true, true, true, true, true, false] rfl rfl (by kernel_rfl) (by decide) (fun K hK => ?_)
      refine goes_ Tryd.func56 (by kernel_rfl) rfl #[.pointer (some ⟨hb_, 0, none⟩), .agg #[.int .i64 x.f0, .bool x.f1, .int .i64 x.f2], .agg #[.int .i64 y.f0, .bool y.f1, .int .i64 y.f2]] (by rfl) rfl rfl (by simp only [List.map_toArray, List.map_cons, List.map_nil]; rfl) ?_
      refine (sval_calls l HC.out hb_ x y w5 (HL.out.below BD.out) HLL.out).mono ?_
      rintro e w6 ⟨rfl, hb6⟩
      have B6 := Aside0.mk (BD.out.trans (hb6.mono BD.out.size))
      refine ⟨_, rfl, ?_⟩
      refine hK.out _ _ ⟨(hb6.cell (World.block_lt_of_cell? w5 _ d0)).trans d0, (hb6.cell (World.block_lt_of_cell? w5 _ d1)).trans d1, (hb6.cell (World.block_lt_of_cell? w5 _ d2)).trans d2, (hb6.cell (World.block_lt_of_cell? w5 _ f0)).trans f0, (hb6.cell (World.block_lt_of_cell? w5 _ f1)).trans f1, (hb6.cell (World.block_lt_of_cell? w5 _ f2)).trans f2⟩ (fun hHeld => ?_)
      clear hK K
      refine norm_ (a' := ?_) ?_ ?_
      rotate_left
      · show Act.put _ (some 27) _ = _
        simp only [Act.put, List.setIfInBounds_toArray, List.set_cons_zero, List.set_cons_succ, i64_w, i32_w]
        rfl
      refine pure_ (i := 10) (N := some 28) (v := ?_) (a' := ?_) #[true, true, true, true, true, true, true, true, true, true, true] rfl rfl (by kernel_rfl) (fun _ _ _ h => h) (Or.inl ⟨by rfl, ?_⟩) ?_ ?_
      rotate_left
      · intro w'
        go_simp
        with_reducible rfl
      rotate_left
      · simp only [Act.put, List.setIfInBounds_toArray, List.set_cons_zero, List.set_cons_succ, i64_w, i32_w]
        rfl
      refine done_ (by kernel_rfl) ?_
      
      clear d0 d1 d2 f0 f1 f2
      cases hv : valM l x y with
      | false =>
        have EF : Aside0 (valsM l us vs = false) := ⟨by rw [EV.out]; exact zip_stop XA.out XB.out hv⟩
        clear hv
        go_wp2_with fail
        go_ret
        exact ⟨by rw [EF.out]; rfl, B6.out⟩
      | true =>
        have ES : Aside0 (((us.zip vs).take (k + 1)).all (fun p => valM l p.1 p.2) = true) := ⟨by rw [zip_snoc XA.out XB.out, ALL.out, hv]; rfl⟩
        clear hv
        go_wp2_with fail
        go_roundw
        case rel => exact ⟨k + 1, by go_num, by omega, ES.out, B6.out⟩
        case measure => simp [intOf]; omega
    · obtain rfl : k = n := by omega
      have EF : Aside0 (valsM l us vs = true) := ⟨by
        have h := ALL.out
        rw [List.take_of_length_le (by rw [List.length_zip, ← NA.out, ← NB.out]; omega)] at h
        rw [EV.out]; exact h⟩
      clear hk hlk
      go_wp2_with fail
      go_ret
      exact ⟨by rw [EF.out]; rfl, W0.out⟩
set_option maxRecDepth 100000 in
set_option maxHeartbeats 4000000 in
theorem sfield_calls (hb_ : Nat) (l : List S62) (a b : S118) (w : World) (hl : Ctx l hb_ w) (hll : (flat l).length ≤ 1048576) (hc : Clo l) :
    Calls Tryd.prog 78 #[.pointer (some ⟨hb_, 0, none⟩), .agg #[.int .i64 a.f0.f0, .bool a.f0.f1, .int .i64 a.f0.f2, .bool a.f1], .agg #[.int .i64 b.f0.f0, .bool b.f0.f1, .int .i64 b.f0.f2, .bool b.f1]] w fun e w' => e = .returned (.bool (fieldM l a b)) ∧ Below w.heap.size w w' := by
  obtain ⟨x, mx⟩ := a
  obtain ⟨y, my⟩ := b
  dsimp only
  have ba : Below w.heap.size w ((w.alloc (.cells #[.int .i64 x.f0, .bool x.f1, .int .i64 x.f2, .bool mx] 118)).alloc (.cells #[.int .i64 y.f0, .bool y.f1, .int .i64 y.f2, .bool my] 118)) := ((Below.refl _ _).alloc (Nat.le_refl _) _).alloc (by simp) _
  have BA := Aside0.mk ba
  have HL := Aside0.mk hl
  have HC := Aside0.mk hc
  have HLL := Aside0.mk hll
  have K := sval_calls l hc hb_ x y _ (hl.below ba) hll
  clear hl hll hc ba
  by_cases hm : mx = my
  rotate_left
  · have EM : Aside0 (fieldM l ⟨x, mx⟩ ⟨y, my⟩ = false) := ⟨by simp [fieldM, hm]⟩
    have e1 : (mx == my) = false := by simp [hm]
    clear K
    go_enter Tryd.func78, Tryd.ntmps78
    go_wp2_with fail
    go_ret
    exact ⟨by rw [EM.out]; rfl, BA.out⟩
  subst hm
  cases hv : valM l x y with
  | false =>
    have EM : Aside0 (fieldM l ⟨x, mx⟩ ⟨y, mx⟩ = false) := ⟨by simp [fieldM, hv]⟩
    rw [hv] at K
    clear hv
    go_enter Tryd.func78, Tryd.ntmps78
    go_wp2_with fail
    refine K.mono ?_
    rintro e w1 ⟨rfl, hb⟩
    have B1 : Aside0 (Below w.heap.size w w1) := ⟨BA.out.trans (hb.mono BA.out.size)⟩
    clear hb K
    go_wp2_with fail
    go_ret
    exact ⟨by rw [EM.out]; rfl, B1.out⟩
  | true =>
    have EM : Aside0 (fieldM l ⟨x, mx⟩ ⟨y, mx⟩ = (!mx || valM l y x)) := ⟨by simp [fieldM, hv]⟩
    rw [hv] at K
    clear hv
    go_enter Tryd.func78, Tryd.ntmps78
    go_wp2_with fail
    refine K.mono ?_
    rintro e w1 ⟨rfl, hb⟩
    have B1 : Aside0 (Below w.heap.size w w1) := ⟨BA.out.trans (hb.mono BA.out.size)⟩
    have q0 := blk_below (blk_alloc (blk_new w (.cells #[.int .i64 x.f0, .bool x.f1, .int .i64 x.f2, .bool mx] 118)) (.cells #[.int .i64 y.f0, .bool y.f1, .int .i64 y.f2, .bool mx] 118)) hb
    have q1 : w1.heap[w.heap.size + 1]? = some (.cells #[.int .i64 y.f0, .bool y.f1, .int .i64 y.f2, .bool mx] 118 (0, 0)) := by have h_ := blk_below (blk_new (w.alloc (.cells #[.int .i64 x.f0, .bool x.f1, .int .i64 x.f2, .bool mx] 118)) (.cells #[.int .i64 y.f0, .bool y.f1, .int .i64 y.f2, .bool mx] 118)) hb; rw [World.size_alloc] at h_; exact h_
    have z00 : w1.cell? ⟨w.heap.size, 0, none⟩ = some (.int .i64 x.f0) := (blk_cell q0 0).trans rfl
    have z01 : w1.cell? ⟨w.heap.size, 1, none⟩ = some (.bool x.f1) := (blk_cell q0 1).trans rfl
    have z02 : w1.cell? ⟨w.heap.size, 2, none⟩ = some (.int .i64 x.f2) := (blk_cell q0 2).trans rfl
    have z03 : w1.cell? ⟨w.heap.size, 3, none⟩ = some (.bool mx) := (blk_cell q0 3).trans rfl
    have z10 : w1.cell? ⟨w.heap.size + 1, 0, none⟩ = some (.int .i64 y.f0) := (blk_cell q1 0).trans rfl
    have z11 : w1.cell? ⟨w.heap.size + 1, 1, none⟩ = some (.bool y.f1) := (blk_cell q1 1).trans rfl
    have z12 : w1.cell? ⟨w.heap.size + 1, 2, none⟩ = some (.int .i64 y.f2) := (blk_cell q1 2).trans rfl
    clear hb K q0 q1
    cases mx with
    | false =>
      go_wp2_with fail
      go_ret
      exact ⟨by rw [EM.out]; rfl, B1.out⟩
    | true =>
      go_wp2_with fail
      refine (sval_calls l HC.out hb_ y x w1 (HL.out.below B1.out) HLL.out).mono ?_
      rintro e w2 ⟨rfl, hb⟩
      have B2 := Aside0.mk (B1.out.trans (hb.mono B1.out.size))
      clear hb
      go_wp2_with fail
      go_ret
      exact ⟨by rw [EM.out]; rfl, B2.out⟩
end Go.Proofs.YtfgglniigeagdaaDoor.Cn
