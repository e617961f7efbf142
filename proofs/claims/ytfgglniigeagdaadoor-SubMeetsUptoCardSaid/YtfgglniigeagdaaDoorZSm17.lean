/- Parts of the proof of subMeets_holds (17 of 20): what it says and shows stands at its declarations. -/
import Derived.Test.YtfgglniigeagdaaDoorZSm16
import Derived.RangeFuncFrom
import Derived.RangeFuncNested
import Derived.RangeFuncCalls
import Derived.RangeFuncBound
import Derived.TacticsInMore
import Derived.OwnWalkIn
import Derived.LoopIn
import Derived.Shelf.RegionOpen
namespace Go.Proofs.YtfgglniigeagdaaDoor.Cn
set_option linter.unusedSimpArgs false
set_option linter.unusedVariables false
open Go.RowKit Go.Maps Go.Proofs.YtfgglniigeagdaaDoorW.PrintWords Go.Proofs.YtfgglniigeagdaaDoorW.PrintLast Go.Proofs.YtfgglniigeagdaaDoorW.PrintMore Go.Proofs.YtfgglniigeagdaaDoor.QD
theorem blk_new' (w : World) (o : Obj) : (w.alloc o).heap[w.heap.size]? = some o := by show (w.heap.push o)[w.heap.size]? = some o; simp
theorem blk_lt' {w : World} {k : Nat} {o : Obj} (h : w.heap[k]? = some o) : k < w.heap.size := (Array.getElem?_eq_some_iff.1 h).1
/-- What the loop's own steps, and the iterator's, leave as it is. -/
structure Stays (nb B : Nat) (I : World → Prop) : Prop where
  put : ∀ (W : World) (l : Nat) (o : Obj), B ≤ l → l < W.heap.size → I W → I (W.putObj l o)
  set : ∀ (W : World) (v : Value), I W → I (W.setCell ⟨nb, 0, none⟩ v)
  drew : ∀ W : World, I W → I W.drew
  alloc : ∀ (W : World) (o : Obj), I W → I (W.alloc o)
/-- What a round leaves as it is, if it goes on. -/
structure RKeep (nb B : Nat) (W W' : World) : Prop where
  size : W.heap.size ≤ W'.heap.size
  own : W'.heap[nb]? = W.heap[nb]?
  new : ∀ k, B ≤ k → k < W.heap.size → W'.heap[k]? = W.heap[k]?
/-- How a round's body may be left. -/
def cellPost (nb B : Nat) (I : List Int → World → Prop) (Ix : Code → List Int → World → Prop) (p : List Int) (W : World) : Exit → Act → World → Prop
  | .normal, _, W' => RKeep nb B W W' ∧ I p W'
  | .ret, _, W' => (W.heap.size ≤ W'.heap.size ∧ ∀ k, B ≤ k → k < W.heap.size → W'.heap[k]? = W.heap[k]?) ∧ Ix .ret p W'
  | _, _, _ => False
/-- The iterator's contract. -/
def SeqCell (n : Nat) (P : Program) (gf : Nat) (lb : Array Value) (nb : Nat) (X : Obj) (Good : World → Prop) (Ok : Int → Prop) (S Sp : List Int → Prop) : Prop :=
  ∀ (l : Nat) (J Jx : List Int → World → Prop) (W : World), (∀ p W v, J p W → J p (W.setCell ⟨nb, 0, none⟩ v)) → (∀ p W, J p W → J p W.drew) → (∀ p W, J p W → Good W) →
    (∀ p (x : Int) W1, J p W1 → Ok x → YieldAt Fence.wide (n - 1) P l #[.int .i64 x] W1 fun e W' => (e = .returned (.bool true) ∧ J (p ++ [x]) W' ∧ W'.heap[nb]? = W1.heap[nb]?) ∨ (e = .returned (.bool false) ∧ Jx (p ++ [x]) W')) →
    J [] W → W.heap[nb]? = some X →
    CallsIn Fence.wide n P gf (#[.func (.yield l) #[] #[]] ++ lb) W fun e W' => (∃ v, e = .returned v) ∧ ((∃ p, S p ∧ J p W') ∨ (∃ p, Sp p ∧ Jx p W'))
theorem range_cell {n : Nat} {P : Program} {g : Operand} {ps : Array Tmp} {assign body : Code} {Q : Exit → Act → World → Prop} {a : Act} {w : World} {gf : Nat} {lb : Array Value} {nb : Nat} {X : Obj} {Good : World → Prop} {Ok : Int → Prop} {S Sp : List Int → Prop}
    (hg : a.eval g = .func (.func gf) #[] lb) (eg : ∀ args w, (callFunc gf args).run P w = .ok (.enter gf args) w) (hps : ps.size = 1)
    (hseq : SeqCell (n - 1) P gf lb nb X Good Ok S Sp) (hnb : nb < w.heap.size) (hX : w.heap[nb]? = some X)
    (I : List Int → World → Prop) (Ix : Code → List Int → World → Prop) (hI : ∀ p, Stays nb w.heap.size (I p)) (hG : ∀ p W, I p W → Good W)
    (hIx : ∀ c p W l o, w.heap.size ≤ l → l < W.heap.size → Ix c p W → Ix c p (W.putObj l o)) (h0 : I [] w) (a₁ : Int → Act)
    (hassign : ∀ (l : Nat) (x : Int) (W : World) (K : Act → World → Prop), K (a₁ x) W →
      assign.wpIn (Fence.wide.inRound l) (n - 1 - 1) P (Exit.then K (fun _ _ _ => False)) { tmps := (ps.zip #[.int .i64 x]).foldl (fun t (p, v) => t.setIfInBounds p v) a.tmps, defers := [] } W)
    (hbody : ∀ (l : Nat) (p : List Int) (x : Int) (W : World), I p W → Ok x → body.wpIn (Fence.wide.inRound l) (n - 1 - 1) P (cellPost nb w.heap.size I Ix (p ++ [x]) W) (a₁ x) W)
    (hdone : ∀ (D : Nat) (p : List Int) (W : World), w.heap.size ≤ D → S p → I p W → W.heap[D]? = some (.deferred (some [])) → Q .normal { a with defers := { target := .collected D, args := #[] } :: a.defers } W)
    (hstop : ∀ (D : Nat) (c : Code) (p : List Int) (W : World), w.heap.size ≤ D → Sp p → Ix c p W → W.heap[D]? = some (.deferred (some [])) → c.wpIn Fence.wide n P Q { a with defers := { target := .collected D, args := #[] } :: a.defers } W) :
    (Code.rangeFunc g ps assign body).wpIn Fence.wide n P Q a w := by
  refine wpIn_rangeFunc fun fn _ => ?_
  let rec0 : LoopState → Option Code → Obj := fun st pe => .loop { state := st, pending := pe, fn, tmps := a.tmps, params := ps, assign, body, defers := w.heap.size }
  let D := w.heap.size
  let R := w.heap.size + 1
  let w1 := (w.alloc (.deferred (some []))).alloc (rec0 .ready none)
  have r1 : w1.heap[R]? = some (rec0 .ready none) := by
    have := blk_new' (w.alloc (.deferred (some []))) (rec0 .ready none)
    rwa [World.size_alloc] at this
  have d1 : w1.heap[D]? = some (.deferred (some [])) := by
    have h := blk_new' w (.deferred (some []))
    exact (Below.heap_alloc _ _ _ (by simp [D])).trans h
  have i1 : I [] w1 := (hI []).alloc _ _ ((hI []).alloc _ _ h0)
  have x1 : w1.heap[nb]? = some X := (Below.heap_alloc _ _ _ (by simp; omega)).trans ((Below.heap_alloc _ _ _ hnb).trans hX)
  refine ⟨R, [{ target := .collected D, args := #[] }], w1, { target := .fn (.func gf) lb, args := #[.func (.yield R) #[] #[]] }, w1, gf, #[.func (.yield R) #[] #[]] ++ lb, w1, run_enterLoop_outer _ _ _ _ _, ?_, ?_, ?_, (fun h => (by cases h)), ?_⟩
  · simp only [resolve, hg]
    simp [go_sem]
  · intro f' _
    trivial
  · simp [invoke, go_sem, eg]
  · let J : List Int → World → Prop := fun p W => I p W ∧ W.heap[R]? = some (rec0 .ready none) ∧ W.heap[D]? = some (.deferred (some []))
    let Jx : List Int → World → Prop := fun p W => ∃ c, Ix c p W ∧ W.heap[R]? = some (rec0 .done (some c)) ∧ W.heap[D]? = some (.deferred (some []))
    have hnR : R ≠ nb := by show w.heap.size + 1 ≠ nb; omega
    have hnD : D ≠ nb := by show w.heap.size ≠ nb; omega
    have hDR : D ≠ R := by show w.heap.size ≠ w.heap.size + 1; omega
    refine (hseq R J Jx w1 (fun p W v hj => ⟨(hI p).set _ _ hj.1, (Below.heap_setCell W ⟨nb, 0, none⟩ v R hnR).trans hj.2.1, (Below.heap_setCell W ⟨nb, 0, none⟩ v D hnD).trans hj.2.2⟩) (fun p W hj => ⟨(hI p).drew _ hj.1, hj.2.1, hj.2.2⟩) (fun p W hj => hG p W hj.1) ?_ ⟨i1, r1, d1⟩ x1).mono ?_
    · -- a round
      rintro p x W ⟨hi, hr, hd⟩ hok
      have hlt : R < W.heap.size := blk_lt' hr
      have hltD : D < W.heap.size := blk_lt' hd
      refine ⟨fn, _, assign, body, run_yield hr (by simp [hps]), roundIn_of_wpIn trivial (hassign R x W _ ⟨_, run_beginRound hr rfl, ?_⟩)⟩
      refine wpIn_mono (hbody R p x (W.putObj R (rec0 .busy none)) ((hI p).put _ _ _ (by show w.heap.size ≤ w.heap.size + 1; omega) hlt hi) hok) ?_
      have hrb : (W.putObj R (rec0 .busy none)).heap[R]? = some (rec0 .busy none) := World.putObj_heap_same hlt
      have hdb : (W.putObj R (rec0 .busy none)).heap[D]? = some (.deferred (some [])) := (World.putObj_heap_other hDR).trans hd
      have hnbk : (W.putObj R (rec0 .busy none)).heap[nb]? = W.heap[nb]? := World.putObj_heap_other (Ne.symm hnR)
      intro e a3 W3 hp
      cases e with
      | normal =>
        obtain ⟨hk, hi3⟩ := hp
        have hr3 : W3.heap[R]? = some (rec0 .busy none) := (hk.new R (by show w.heap.size ≤ w.heap.size + 1; omega) (by rw [World.putObj_size]; exact hlt)).trans hrb
        have hd3 : W3.heap[D]? = some (.deferred (some [])) := (hk.new D (Nat.le_refl _) (by rw [World.putObj_size]; exact hltD)).trans hdb
        refine ⟨_, _, run_endRound none hr3, .inl ⟨rfl, ⟨(hI _).put _ _ _ (by show w.heap.size ≤ w.heap.size + 1; omega) (blk_lt' hr3) hi3, World.putObj_heap_same (blk_lt' hr3), (World.putObj_heap_other hDR).trans hd3⟩, ?_⟩⟩
        exact (World.putObj_heap_other (Ne.symm hnR)).trans (hk.own.trans hnbk)
      | ret =>
        obtain ⟨⟨hsz, hk⟩, hi3⟩ := hp
        have hr3 : W3.heap[R]? = some (rec0 .busy none) := (hk R (by show w.heap.size ≤ w.heap.size + 1; omega) (by rw [World.putObj_size]; exact hlt)).trans hrb
        have hd3 : W3.heap[D]? = some (.deferred (some [])) := (hk D (Nat.le_refl _) (by rw [World.putObj_size]; exact hltD)).trans hdb
        exact ⟨_, _, run_endRound (some .ret) hr3, .inr ⟨rfl, .ret, hIx _ _ _ _ _ (by show w.heap.size ≤ w.heap.size + 1; omega) (blk_lt' hr3) hi3, World.putObj_heap_same (blk_lt' hr3), (World.putObj_heap_other hDR).trans hd3⟩⟩
      | exit id => exact hp.elim
      | goto t => exact hp.elim
      | panic ch => exact hp.elim
      | outgrown => exact hp.elim
    · -- behind the iterator
      rintro e W2 ⟨⟨v, rfl⟩, (⟨p, hS, hi, hr, hd⟩ | ⟨p, hS, c, hi, hr, hd⟩)⟩
      · exact ⟨none, _, run_endLoop hr (by intro e; cases e), hdone D p _ (Nat.le_refl _) hS ((hI p).put _ _ _ (by show w.heap.size ≤ w.heap.size + 1; omega) (blk_lt' hr) hi) ((World.putObj_heap_other hDR).trans hd)⟩
      · exact ⟨some c, _, run_endLoop hr (by intro e; cases e), hstop D c p _ (Nat.le_refl _) hS (hIx _ _ _ _ _ (by show w.heap.size ≤ w.heap.size + 1; omega) (blk_lt' hr) hi) ((World.putObj_heap_other hDR).trans hd)⟩
def noDefer (ops : Array Oper) : Bool := ops.toList.all fun o => match o.op with | .defer _ => false | _ => true
theorem noDefer_spec {ops : Array Oper} (h : noDefer ops = true) {i : Nat} {o : Oper} (ho : ops[i]? = some o) : ∀ c, o.op ≠ .defer c := by
  intro c hc
  have hm : o ∈ ops.toList := by
    rw [← Array.getElem?_toList] at ho
    exact List.mem_of_getElem? ho
  have := List.all_eq_true.1 h o hm
  rw [hc] at this
  cases this
theorem upon_round {P : Program} {o : Oper} {a : Act} {next next' : Act → World → Prop} {Q : Exit → Act → World → Prop} {r : Result Next} {l n : Nat} (hn : ∀ a w, next a w → next' a w) (h : Oper.upon P o a next Q r) : Oper.uponIn (Fence.wide.inRound l) n P o a next' Q r := by
  cases r with
  | ok v w' =>
    cases v with
    | value v => exact hn _ _ h
    | skip => exact hn _ _ h
    | defer d => exact hn _ _ h
    | enter f args =>
      refine ⟨(fun h0 => (by cases h0)), CallsIn.inRound l (callsIn_wide.2 (Calls.mono h fun e w hh => ?_))⟩
      cases e with
      | returned v => exact hn _ _ hh
      | panicked c => exact hh
      | outgrown => exact hh
    | row row args =>
      refine ⟨(fun h0 => (by cases h0)), fun c cs _ => ?_⟩
      obtain ⟨v, w2, hr, hs⟩ := h c cs
      exact ⟨v, w2, hn _ _ hr, stepsIn_wide.2 hs⟩
    | _ => exact h.elim
  | halt s w' =>
    cases s <;> first | exact h | exact h.elim
theorem wpAnyIn_round {P : Program} {md : Region.Mode} {ops : Array Oper} {Q : Exit → Act → World → Prop} {l n : Nat} (hno : ¬ LetsOut Q) (hops : noDefer ops = true) :
    ∀ (fuel : Nat) (listed : Array Bool) (a : Act) (w : World), wpAny P md ops Q fuel listed a w → wpAnyIn (Fence.wide.inRound l) n P md ops Q fuel listed a w
  | 0, _, _, _, h => h
  | fuel + 1, listed, a, w, h => ⟨h.1, fun i hi => by
      have h2 := h.2 i hi
      unfold wpOp at h2
      unfold wpOpIn
      cases ho : ops[i]? with
      | none => rw [ho] at h2; exact wpAnyIn_round hno hops fuel _ _ _ h2
      | some o =>
        rw [ho] at h2
        dsimp only at h2 ⊢
        by_cases hw : Region.wanted o (yielded ops a.tmps) = true
        · rw [if_pos hw] at h2 ⊢
          rcases h2 with h2 | h2
          · refine ⟨fun _ _ => trivial, ?_⟩
            rw [Oper.semAt_eq _ _ _ (noDefer_spec hops ho)]
            exact upon_round (fun a' w' h' => wpAnyIn_round hno hops fuel _ a' w' h') h2
          · exact absurd h2.2 hno
        · rw [if_neg hw] at h2 ⊢
          exact ⟨fun _ _ => trivial, wpAnyIn_round hno hops fuel _ _ _ h2⟩⟩
theorem startR_ {P : Program} {ops : Array Oper} {Q : Exit → Act → World → Prop} {S : World → Prop} {ds : List Nat} {id n rl m : Nat} {a : Act} {w : World} (hno : ¬ LetsOut Q) (hops : noDefer ops = true) (l : Array Bool) (hm : P.follows .mixedOrders = true) (hn : ops.size = n) (hl : Array.replicate n false = l) (hS : S w.drew)
    (h : S w.drew → wpAnyLast P .any ops Q S ds n l a w.drew) : (Code.region id ops true).wpIn (Fence.wide.inRound rl) m P Q a w := by
  subst hn
  subst hl
  exact wpIn_region_any hm (wpAnyIn_round hno hops _ _ _ _ (wpAny_of_last _ _ _ _ (h hS)))
/-- A type and what it declares above it, at most k of them. -/
def chain (l : List S62) : Nat → Int → List Int
  | 0, _ => []
  | k + 1, x => x :: (match (tyAt l x).f1 with | [] => [] | y :: _ => chain l k y)
theorem chain_end {l : List S62} {x : Int} (k : Nat) (h : (tyAt l x).f1 = []) : chain l (k + 1) x = [x] := by simp [chain, h]
theorem chain_on {l : List S62} {x y : Int} {t : List Int} (k : Nat) (h : (tyAt l x).f1 = y :: t) : chain l (k + 1) x = x :: chain l k y := by simp [chain, h]
/-- In closed groups a type declares types of the list above it. -/
theorem tyAt_supers {l : List S62} (hc : Clo l) {x : Int} (h0 : 0 ≤ x) (h1 : x < ((flat l).length : Int)) : ∀ y ∈ (tyAt l x).f1, 0 ≤ y ∧ y < ((flat l).length : Int) := by
  obtain ⟨j, r, p, hj, hr, he, hp⟩ := place_of l l.length x.toNat (Nat.le_refl _) (by rw [List.take_length, ← flat_length]; omega)
  have h2 : (flat l)[x.toNat]? = r.f0[p]? := by rw [he]; exact flat_get hr hp
  have h3 : tyAt l x = r.f0[p] := by
    unfold tyAt rd_T53
    rw [List.getD_eq_getElem?_getD, h2, List.getElem?_eq_getElem hp]
    rfl
  have h4 := (typeOk_iff _ _).1 (hc j r hr (r.f0[p]) (List.getElem_mem hp))
  intro y hy
  rw [h3] at hy
  refine ⟨h4.1 y hy, ?_⟩
  have h5 := (h4.2.q1 y hy).2
  have h6 := tcount_mono l (j + 1) l.length (by omega)
  rw [List.take_length] at h6
  rw [flat_length]
  omega
set_option maxRecDepth 100000 in
set_option maxHeartbeats 8000000 in
theorem above_seq (l : List S62) (hc : Clo l) (cb pb nb : Nat) (x0 : Int) (h0 : 0 ≤ x0) (h1 : x0 < ((flat l).length : Int)) (hll : (flat l).length ≤ 1048576) (n : Nat) :
    SeqCell n Tryd.prog 75 #[.pointer (some ⟨pb, 0, none⟩), .pointer (some ⟨nb, 0, none⟩)] nb (.cells #[.int .i64 x0] 3 (0, 0)) (fun W => W.heap[pb]? = some (.cells #[.pointer (some ⟨cb, 0, none⟩)] 99 (0, 0)) ∧ Ctx l cb W) (fun x => 0 ≤ x ∧ x < ((flat l).length : Int))
      (fun p => p = chain l ((flat l).length + 1) x0) (fun p => ∃ t, p ++ t = chain l ((flat l).length + 1) x0) := by
  intro rl J Jx W hset hdrew hgood hY hJ hX
  refine callsIn_of_wp Tryd.func75 rfl trivial ?_ rfl
  simp only [Tryd.ntmps75, List.size_toArray, List.length_cons, List.length_nil, Nat.reduceAdd, Nat.reduceSub, Array.replicate_succ, Array.replicate_zero, List.push_toArray, List.append_toArray, List.nil_append, List.cons_append, Array.append_empty]
  have HSET := Aside0.mk hset
  have HDREW := Aside0.mk hdrew
  have HGOOD := Aside0.mk hgood
  have HY := Aside0.mk hY
  have HC := Aside0.mk hc
  have HJ := Aside0.mk hJ
  have HX := Aside0.mk hX
  obtain ⟨gp, gc⟩ := hgood _ _ hJ
  obtain ⟨L, Ai, ci, Aa, ca, I, e1, e2, e3, e4, e5, e6⟩ := gc.ex
  have x1 : W.cell? ⟨pb, 0, none⟩ = some (.pointer (some ⟨cb, 0, none⟩)) := (blk_cell gp 0).trans rfl
  have x2 : W.cell? ⟨cb, 2, none⟩ = some (.slice Aa (flat l).length ca) := (blk_cell e1 2).trans rfl
  have hwl : wrap64 (((flat l).length : Int) + 1) = ((flat l).length : Int) + 1 := by unfold wrap64; omega
  clear hset hdrew hgood hY hJ hX gp gc e1 e2 e3 e4 e5 e6 hc
  gi_wp2
  obtain ⟨m, hm⟩ : ∃ m, m = (flat l).length := ⟨_, rfl⟩
  have HM := Aside0.mk hm
  gi_loopw [11] (fun i W => ∃ (k : Nat) (x : Int) (p : List Int), i = .int .i64 k ∧ k ≤ m + 1 ∧ (0 ≤ x ∧ x < (m : Int)) ∧ J p W ∧ W.heap[nb]? = some (.cells #[.int .i64 x] 3 (0, 0)) ∧ p ++ chain l (m + 1 - k) x = chain l (m + 1) x0) (fun i _ => m + 1 - (intOf i).toNat)
  case atStart => exact ⟨0, x0, [], rfl, Nat.zero_le _, ⟨h0, by omega⟩, HJ.out, HX.out, rfl⟩
  case round =>
    rw [← hm]
    have hm' : m ≤ 1048576 := by omega
    clear HJ HX x1 x2 hm
    obtain ⟨k, x, p, rfl, hk, ⟨hx0, hx1⟩, hJ, hX, hch⟩ := hrel
    have HJ := Aside0.mk hJ
    have HX := Aside0.mk hX
    have HCH := Aside0.mk hch
    have hnx : wr.cell? ⟨nb, 0, none⟩ = some (.int .i64 x) := (blk_cell hX 0).trans rfl
    clear hch hX
    by_cases hlk : k < m + 1
    · have kl : (k : Int) < (m : Int) + 1 := by omega
      have hwk : wrap64 ((k : Int) + 1) = (k : Int) + 1 := by unfold wrap64; omega
      obtain ⟨fn, tmps, assign, body, hy, hR⟩ := HY.out p x wr hJ ⟨hx0, by rw [← HM.out]; exact hx1⟩
      clear hJ
      gi_wp2
      refine ⟨fun h => (by cases h), hR.mono ?_⟩
      rintro e w3 (⟨rfl, hJ3, hk3⟩ | ⟨rfl, hJx3⟩)
      · obtain ⟨gp, gc⟩ := HGOOD.out _ _ hJ3
        obtain ⟨L, Ai, ci, Aa, ca, I, e1, e2, e3, e4, e5, e6⟩ := gc.ex
        have X3 := Aside0.mk (hk3.trans HX.out)
        have J3 := Aside0.mk hJ3
        have P3 := Aside0.mk gp
        have C3 := Aside0.mk e1
        obtain ⟨ae, A1', c1, A3, c3, A4, c4, A5, c5, ea, d0, d1, d2, d3, d4, d5, m1, r1, m3, r3, m4, r4, m5, r5⟩ := at_T53 e5 x hx0 (by rw [← HM.out]; exact hx1)
        subst ea
        have D1 := Aside0.mk d1
        have S1 := Aside0.mk r1
        have T1 : Aside0 (rd_T53 (flat l) x = tyAt l x) := ⟨rfl⟩
        rw [T1.out] at D1 S1
        have SUP := Aside0.mk (tyAt_supers HC.out hx0 (by rw [← HM.out]; exact hx1))
        clear hJ3 hk3 gp gc e1 e2 e3 e4 e5 e6 d0 d1 d2 d3 d4 d5 m1 r1 m3 r3 m4 r4 m5 r5 hy hR hnx T1
        rw [← HM.out] at C3
        obtain ⟨ss, hss⟩ : ∃ ss, ss = (tyAt l x).f1 := ⟨_, rfl⟩
        rw [← hss] at D1 S1 SUP
        have HSS := Aside0.mk hss
        clear hss
        have hxm : x < (m : Int) := hx1
        gi_wp2
        refine wpIn_wide.2 ?_
        refine start_ (n := 9) (S := fun w' => w'.cell? ⟨pb, 0, none⟩ = some (.pointer (some ⟨cb, 0, none⟩)) ∧ w'.cell? ⟨cb, 2, none⟩ = some (.slice (some ae) m ca) ∧ w'.cell? ⟨nb, 0, none⟩ = some (.int .i64 x) ∧ w'.cell? ⟨(ae.add (x.toNat * 6)).block, (ae.add (x.toNat * 6)).off + 1, none⟩ = some (.slice A1' ss.length c1)) (ds := []) #[false, false, false, false, false, false, false, false, false] (by kernel_rfl) rfl rfl ⟨(blk_cell P3.out 0).trans rfl, (blk_cell C3.out 2).trans rfl, (blk_cell X3.out 0).trans rfl, D1.out⟩ (fun hHeld => ?_)
        refine take_ (i := 0) (N := some 17) (v := ?_) (a' := ?_) #[true, false, false, false, false, false, false, false, false] rfl rfl (by kernel_rfl) (fun _ _ _ h => h) (Or.inl ⟨by rfl, ?_⟩) hHeld ?_ ?_
        rotate_left
        · rintro w' ⟨s0, s1, s2, s3⟩
          go_simp
          with_reducible rfl
        rotate_left
        · simp only [Act.put, List.setIfInBounds_toArray, List.set_cons_zero, List.set_cons_succ, i64_w, i32_w]
          rfl
        refine pure_ (i := 1) (N := some 18) (v := ?_) (a' := ?_) #[true, true, false, false, false, false, false, false, false] rfl rfl (by kernel_rfl) (fun _ _ _ h => h) (Or.inl ⟨by rfl, ?_⟩) ?_ ?_
        rotate_left
        · intro w'
          go_simp
          with_reducible rfl
        rotate_left
        · simp only [Act.put, List.setIfInBounds_toArray, List.set_cons_zero, List.set_cons_succ, i64_w, i32_w]
          rfl
        refine pure_ (i := 2) (N := some 19) (v := ?_) (a' := ?_) #[true, true, true, false, false, false, false, false, false] rfl rfl (by kernel_rfl) (fun _ _ _ h => h) (Or.inl ⟨by rfl, ?_⟩) ?_ ?_
        rotate_left
        · intro w'
          go_simp
          with_reducible rfl
        rotate_left
        · simp only [Act.put, List.setIfInBounds_toArray, List.set_cons_zero, List.set_cons_succ, i64_w, i32_w]
          rfl
        refine take_ (i := 3) (N := some 20) (v := ?_) (a' := ?_) #[true, true, true, true, false, false, false, false, false] rfl rfl (by kernel_rfl) (fun _ _ _ h => h) (Or.inl ⟨by rfl, ?_⟩) hHeld ?_ ?_
        rotate_left
        · rintro w' ⟨s0, s1, s2, s3⟩
          go_simp
          with_reducible rfl
        rotate_left
        · simp only [Act.put, List.setIfInBounds_toArray, List.set_cons_zero, List.set_cons_succ, i64_w, i32_w]
          rfl
        refine take_ (i := 4) (N := some 21) (v := ?_) (a' := ?_) #[true, true, true, true, true, false, false, false, false] rfl rfl (by kernel_rfl) (fun _ _ _ h => h) (Or.inl ⟨by rfl, ?_⟩) hHeld ?_ ?_
        rotate_left
        · rintro w' ⟨s0, s1, s2, s3⟩
          go_simp
          with_reducible rfl
        rotate_left
        · simp only [Act.put, List.setIfInBounds_toArray, List.set_cons_zero, List.set_cons_succ, i64_w, i32_w]
          rfl
        refine pure_ (i := 5) (N := some 22) (v := ?_) (a' := ?_) #[true, true, true, true, true, true, false, false, false] rfl rfl (by kernel_rfl) (fun _ _ _ h => h) (Or.inl ⟨by rfl, ?_⟩) ?_ ?_
        rotate_left
        · intro w'
          go_simp
          with_reducible rfl
        rotate_left
        · simp only [Act.put, List.setIfInBounds_toArray, List.set_cons_zero, List.set_cons_succ, i64_w, i32_w]
          rfl
        refine pure_ (i := 6) (N := some 23) (v := ?_) (a' := ?_) #[true, true, true, true, true, true, true, false, false] rfl rfl (by kernel_rfl) (fun _ _ _ h => h) (Or.inl ⟨by rfl, ?_⟩) ?_ ?_
        rotate_left
        · intro w'
          go_simp
          with_reducible rfl
        rotate_left
        · simp only [Act.put, List.setIfInBounds_toArray, List.set_cons_zero, List.set_cons_succ, i64_w, i32_w]
          rfl
        refine take_ (i := 7) (N := some 24) (v := ?_) (a' := ?_) #[true, true, true, true, true, true, true, true, false] rfl rfl (by kernel_rfl) (fun _ _ _ h => h) (Or.inl ⟨by rfl, ?_⟩) hHeld ?_ ?_
        rotate_left
        · rintro w' ⟨s0, s1, s2, s3⟩
          go_simp
          with_reducible rfl
        rotate_left
        · simp only [Act.put, List.setIfInBounds_toArray, List.set_cons_zero, List.set_cons_succ, i64_w, i32_w]
          rfl
        refine pure_ (i := 8) (N := some 4) (v := ?_) (a' := ?_) #[true, true, true, true, true, true, true, true, true] rfl rfl (by kernel_rfl) (fun _ _ _ h => h) (Or.inl ⟨by rfl, ?_⟩) ?_ ?_
        rotate_left
        · intro w'
          go_simp
          with_reducible rfl
        rotate_left
        · simp only [Act.put, List.setIfInBounds_toArray, List.set_cons_zero, List.set_cons_succ, i64_w, i32_w]
          rfl
        refine done_ (by kernel_rfl) ?_
        
        have J4 := Aside0.mk (HDREW.out _ _ J3.out)
        have X4 : Aside0 (w3.drew.heap[nb]? = some (.cells #[.int .i64 x] 3 (0, 0))) := ⟨X3.out⟩
        have S4 : Aside0 ((Kd.int .i64).C w3.drew A1' ss.length ss) := ⟨Kd.C_drew S1.out⟩
        generalize w3.drew = w4 at J4 X4 S4 ⊢
        have hn4 : w4.cell? ⟨nb, 0, none⟩ = some (.int .i64 x) := (blk_cell X4.out 0).trans rfl
        have hf4 : w4.frozen? ⟨nb, 0, none⟩ = false := blk_frozen X4.out 0
        have hk1 : m + 1 - k = (m - k) + 1 := by omega
        have hch := HCH.out
        rw [hk1] at hch
        rcases hz : ss with _ | ⟨y, t⟩
        · subst hz
          rw [chain_end _ HSS.out.symm] at hch
          have HCE := Aside0.mk hch
          clear hch hn4 hf4
          gi_wp2
          refine bodyPost_ret (results_none rfl _ _ _) rfl ?_
          exact ⟨⟨_, rfl⟩, .inl ⟨_, HM.out ▸ HCE.out, J4.out⟩⟩
        · subst hz
          rw [chain_on _ HSS.out.symm] at hch
          have HCE := Aside0.mk hch
          clear hch
          obtain ⟨ai, z, eA, hz, hcz⟩ := at_int' S4.out 0 (by simp)
          subst eA
          obtain rfl : y = z := by simpa using hz
          have hy01 := SUP.out y (by simp)
          rw [← HM.out] at hy01
          have X5 := Aside0.mk (blk_set X4.out 0 (.int .i64 y))
          have J5 := Aside0.mk (HSET.out _ _ (.int .i64 y) J4.out)
          have hcz' : w4.cell? ai = some (.int .i64 y) := by have e_ : ai.add 0 = ai := (by simp [Addr.add]); rw [e_] at hcz; exact hcz
          have h0l : (0 : Int) < ((y :: t).length : Int) := by simp
          gi_wp2
          go_roundw
          case rel => exact ⟨k + 1, y, p ++ [x], by go_num, by omega, hy01, J5.out, by simpa using X5.out, by have e_ : m + 1 - (k + 1) = m - k := (by omega); rw [e_, List.append_assoc]; exact HCE.out⟩
          case measure => simp [intOf]; omega
      · gi_wp2
        refine bodyPost_ret (results_none rfl _ _ _) rfl ?_
        have hch := HCH.out
        have hk1 : m + 1 - k = (m - k) + 1 := by omega
        rw [hk1] at hch
        refine ⟨⟨_, rfl⟩, .inr ⟨p ++ [x], ?_, hJx3⟩⟩
        rw [← HM.out]
        refine ⟨(match (tyAt l x).f1 with | [] => [] | y :: _ => chain l (m - k) y), ?_⟩
        rw [List.append_assoc]
        exact hch
    · obtain rfl : k = m + 1 := by omega
      have hch := HCH.out
      rw [Nat.sub_self] at hch
      have HCE : Aside0 (p = chain l (m + 1) x0) := ⟨by simpa [chain] using hch⟩
      clear hch hk hlk hnx
      gi_wp2
      go_end0
      exact ⟨⟨_, rfl⟩, .inl ⟨p, HM.out ▸ HCE.out, HJ.out⟩⟩
attribute [local go_sem] Oper.semAt_some
/-- Does the heap type a match b, in a closed list? -/
noncomputable def heapM (l : List S62) (a b : Int) : Bool :=
  if isM l a && isM l b then
    if a < 0 then
      if b < 0 then absM a b else decide (a = -10) && decide (kindOf l b ≠ -1) || decide (a = -2) && decide (kindOf l b = -1)
    else if b < 0 then absM (kindOf l a) b
    else (chain l ((flat l).length + 1) a).any fun x => (oneM l l (x.toNat : Int) (b.toNat : Int)).1
  else false
theorem results_cell1 {fn : Func} {p : Tmp} {ty : TypeId} (h : fn.results = #[.cell p ty]) (tmps : Array Value) (P : Program) (w : World) :
    (results fn tmps).run P w = ((asAddr (tmps.getD p undef)).run P w).andThen fun a w₁ => (loadVar ty a).run P w₁ := by
  simp only [results, h]
  simp [Sem.run_bind, Result.andThen]
theorem heapM_no {l : List S62} {a b : Int} (h : ¬ (isM l a = true ∧ isM l b = true)) : heapM l a b = false := by
  unfold heapM
  rw [if_neg]
  simpa using h
theorem isM_bounds {l : List S62} {h : Int} (hh : isM l h = true) : -12 ≤ h ∧ h < ((flat l).length : Int) := by simpa [isM] using hh
set_option maxRecDepth 100000 in
theorem sabove_calls (cb : Nat) (x : Int) (w : World) : Calls Tryd.prog 59 #[.pointer (some ⟨cb, 0, none⟩), .int .i64 x] w fun e w' => e = .returned (.func (.func 75) #[] #[.pointer (some ⟨w.heap.size, 0, none⟩), .pointer (some ⟨w.heap.size + 1, 0, none⟩)]) ∧ w' = (w.alloc (.cells #[.pointer (some ⟨cb, 0, none⟩)] 99)).alloc (.cells #[.int .i64 x] 3) := by
  go_enter Tryd.func59, Tryd.ntmps59
  go_wp2_with fail
  go_ret
  exact ⟨rfl, rfl⟩
theorem heapM_rows {l : List S62} {a b : Int} (ha : isM l a = true) (hb : isM l b = true) (a0 : 0 ≤ a) (b0 : 0 ≤ b) : heapM l a b = true ↔ ∃ x ∈ chain l ((flat l).length + 1) a, SameT l x.toNat b.toNat := by
  unfold heapM
  rw [if_pos (by rw [ha, hb]; rfl), if_neg (by omega), if_neg (by omega)]
  rw [List.any_eq_true]
  exact Iff.rfl
/-- The boxes of context.heap. -/
structure HB (w : World) (cb : Nat) (b : Int) (v : Bool) (W : World) : Prop where
  b0 : W.heap[w.heap.size]? = some (.cells #[.pointer (some ⟨cb, 0, none⟩)] 99 (0, 0))
  b1 : W.heap[w.heap.size + 1]? = some (.cells #[.int .i64 b] 3 (0, 0))
  b2 : W.heap[w.heap.size + 1 + 1]? = some (.cells #[.bool v] 4 (0, 0))
  b3 : W.heap[w.heap.size + 1 + 1 + 1]? = some (.cells #[.pointer (some ⟨cb, 0, none⟩)] 99 (0, 0))
  bel : Below w.heap.size w W
theorem HB.put {w W : World} {cb : Nat} {b : Int} {v : Bool} (h : HB w cb b v W) (l : Nat) (o : Obj) (hl : w.heap.size + 1 + 1 + 1 < l) (hlt : l < W.heap.size) : HB w cb b v (W.putObj l o) :=
  ⟨(World.putObj_heap_other (by omega)).trans h.b0, (World.putObj_heap_other (by omega)).trans h.b1, (World.putObj_heap_other (by omega)).trans h.b2, (World.putObj_heap_other (by omega)).trans h.b3,
   h.bel.grown (grownBy_putObj' W l o) h.bel.size (fun k e => by cases e; omega)⟩
theorem HB.set {w W : World} {cb : Nat} {b : Int} {v : Bool} (h : HB w cb b v W) (l : Nat) (u : Value) (hl : w.heap.size + 1 + 1 + 1 < l) : HB w cb b v (W.setCell ⟨l, 0, none⟩ u) :=
  ⟨blk_far h.b0 (show w.heap.size ≠ l by omega) u, blk_far h.b1 (show w.heap.size + 1 ≠ l by omega) u, blk_far h.b2 (show w.heap.size + 1 + 1 ≠ l by omega) u, blk_far h.b3 (show w.heap.size + 1 + 1 + 1 ≠ l by omega) u, h.bel.trans ((Below.refl _ _).setCell (p := ⟨l, 0, none⟩) (by show w.heap.size ≤ l; omega) u)⟩
theorem HB.store {w W : World} {cb : Nat} {b : Int} {v : Bool} (h : HB w cb b v W) (u : Bool) : HB w cb b u (W.setCell ⟨w.heap.size + 1 + 1, 0, none⟩ (.bool u)) :=
  ⟨blk_far h.b0 (show w.heap.size ≠ w.heap.size + 1 + 1 by omega) _, blk_far h.b1 (show w.heap.size + 1 ≠ w.heap.size + 1 + 1 by omega) _, by have := blk_set h.b2 0 (.bool u); simpa using this, blk_far h.b3 (show w.heap.size + 1 + 1 + 1 ≠ w.heap.size + 1 + 1 by omega) _, h.bel.trans ((Below.refl _ _).setCell (p := ⟨w.heap.size + 1 + 1, 0, none⟩) (by show w.heap.size ≤ w.heap.size + 1 + 1; omega) _)⟩
theorem HB.stays {w : World} {cb : Nat} {b : Int} {v : Bool} {nb B : Nat} (hn : w.heap.size + 1 + 1 + 1 < nb) (hB : w.heap.size + 1 + 1 + 1 < B) (q : Prop) : Stays nb B (fun W => HB w cb b v W ∧ q) where
  put := fun W l o hl hlt h => ⟨h.1.put l o (by omega) hlt, h.2⟩
  set := fun W u h => ⟨h.1.set nb u hn, h.2⟩
  drew := fun W h => ⟨⟨h.1.b0, h.1.b1, h.1.b2, h.1.b3, h.1.bel.drew⟩, h.2⟩
  alloc := fun W o h => ⟨⟨blk_alloc h.1.b0 o, blk_alloc h.1.b1 o, blk_alloc h.1.b2 o, blk_alloc h.1.b3 o, h.1.bel.alloc h.1.bel.size o⟩, h.2⟩
set_option maxRecDepth 100000 in
set_option maxHeartbeats 8000000 in
theorem sheap_calls (l : List S62) (hc : Clo l) (cb : Nat) (a b : Int) (w : World) (hctx : Ctx l cb w) (hll : (flat l).length ≤ 1048576) :
    Calls Tryd.prog 54 #[.pointer (some ⟨cb, 0, none⟩), .int .i64 a, .int .i64 b] w fun e w' => e = .returned (.bool (heapM l a b)) ∧ Below w.heap.size w w' := by
  have ba : Below w.heap.size w (((w.alloc (.cells #[.pointer (some ⟨cb, 0, none⟩)] 99)).alloc (.cells #[.int .i64 b] 3)).alloc (.cells #[.bool false] 4)) := (((Below.refl _ _).alloc (Nat.le_refl _) _).alloc (by simp) _).alloc (by simp; omega) _
  have C0 := Aside0.mk (hctx.below ba)
  have B0 := Aside0.mk ba
  have HC := Aside0.mk hc
  have HLL := Aside0.mk hll
  have x0 : (((w.alloc (.cells #[.pointer (some ⟨cb, 0, none⟩)] 99)).alloc (.cells #[.int .i64 b] 3)).alloc (.cells #[.bool false] 4)).heap[w.heap.size]? = some (.cells #[.pointer (some ⟨cb, 0, none⟩)] 99 (0, 0)) := blk_alloc (blk_alloc (blk_new w _) _) _
  have x1 : (((w.alloc (.cells #[.pointer (some ⟨cb, 0, none⟩)] 99)).alloc (.cells #[.int .i64 b] 3)).alloc (.cells #[.bool false] 4)).heap[w.heap.size + 1]? = some (.cells #[.int .i64 b] 3 (0, 0)) := by have h := blk_alloc (blk_new (w.alloc (.cells #[.pointer (some ⟨cb, 0, none⟩)] 99)) (.cells #[.int .i64 b] 3)) (.cells #[.bool false] 4); rw [World.size_alloc] at h; exact h
  have x2 : (((w.alloc (.cells #[.pointer (some ⟨cb, 0, none⟩)] 99)).alloc (.cells #[.int .i64 b] 3)).alloc (.cells #[.bool false] 4)).heap[w.heap.size + 1 + 1]? = some (.cells #[.bool false] 4 (0, 0)) := by have h := blk_new ((w.alloc (.cells #[.pointer (some ⟨cb, 0, none⟩)] 99)).alloc (.cells #[.int .i64 b] 3)) (.cells #[.bool false] 4); rw [World.size_alloc, World.size_alloc] at h; exact h
  have hout : ∀ v : Bool, Below w.heap.size w (((w.alloc (.cells #[.pointer (some ⟨cb, 0, none⟩)] 99)).alloc (.cells #[.int .i64 b] 3)).alloc (.cells #[.bool v] 4)) := fun v => (((Below.refl _ _).alloc (Nat.le_refl _) _).alloc (by simp) _).alloc (by simp; omega) _
  have HOUT := Aside0.mk hout
  have CW := Aside0.mk hctx
  clear ba hctx hc hll hout
  by_cases ha : isM l a = true
  · by_cases hb : isM l b = true
    · obtain ⟨ha0, ha1⟩ := isM_bounds ha
      obtain ⟨hb0, hb1⟩ := isM_bounds hb
      by_cases na : a < 0
      · by_cases nb : b < 0
        · have EM : Aside0 (heapM l a b = absM a b) := ⟨by unfold heapM; rw [if_pos (by rw [ha, hb]; rfl), if_pos na, if_pos nb]⟩
          have K1 := sis_calls l cb a _ C0.out
          have K2 := sis_calls l cb b _ C0.out
          rw [ha] at K1
          rw [hb] at K2
          have K3 := sabstract_calls a b (((w.alloc (.cells #[.pointer (some ⟨cb, 0, none⟩)] 99)).alloc (.cells #[.int .i64 b] 3)).alloc (.cells #[.bool false] 4)) ha0 na hb0 nb
          rw [← EM.out] at K3
          clear ha hb x0 x1 x2
          go_enter Tryd.func54, Tryd.ntmps54
          go_wp2_with (first | ((with_reducible refine K1.mono ?_); rintro e w1 ⟨rfl, rfl⟩) | ((with_reducible refine K2.mono ?_); rintro e w1 ⟨rfl, rfl⟩) | ((with_reducible refine K3.mono ?_); rintro e w1 ⟨rfl, rfl⟩))
          refine bodyPost_ret (v := .bool (heapM l a b)) ?_ rfl ?_
          · rw [results_cell1 rfl]; go_simp
          · exact ⟨rfl, HOUT.out _⟩
        · have EM : Aside0 (heapM l a b = (decide (a = -10) && decide (kindOf l b ≠ -1) || decide (a = -2) && decide (kindOf l b = -1))) := ⟨by unfold heapM; rw [if_pos (by rw [ha, hb]; rfl), if_pos na, if_neg nb]⟩
          have K1 := sis_calls l cb a _ C0.out
          have K2 := sis_calls l cb b _ C0.out
          rw [ha] at K1
          rw [hb] at K2
          have K3 := skind_calls l cb b _ C0.out (by omega) hb1
          have hk := kindM_in (tyAt l b).f2.f0
          obtain ⟨kb, hkb⟩ : ∃ kb, kb = kindOf l b := ⟨_, rfl⟩
          rw [← hkb] at K3 EM
          replace hk : kb = -1 ∨ kb = -8 ∨ kb = -9 := by rw [hkb]; exact hk
          clear ha hb x0 x1 x2 hkb
          by_cases a10 : a = -10
          · subst a10
            rcases hk with rfl | rfl | rfl
            all_goals
              go_enter Tryd.func54, Tryd.ntmps54
              go_wp2_with (first | ((with_reducible refine K1.mono ?_); rintro e w1 ⟨rfl, rfl⟩) | ((with_reducible refine K2.mono ?_); rintro e w1 ⟨rfl, rfl⟩) | ((with_reducible refine K3.mono ?_); rintro e w1 ⟨rfl, rfl⟩))
              refine bodyPost_ret (v := .bool (heapM l (-10) b)) ?_ rfl ?_
              · rw [EM.out, results_cell1 rfl]; go_simp
              · exact ⟨rfl, HOUT.out _⟩
          · have e10 : (a == -10) = false := by simp [a10]
            by_cases a2 : a = -2
            · subst a2
              rcases hk with rfl | rfl | rfl
              all_goals
                go_enter Tryd.func54, Tryd.ntmps54
                go_wp2_with (first | ((with_reducible refine K1.mono ?_); rintro e w1 ⟨rfl, rfl⟩) | ((with_reducible refine K2.mono ?_); rintro e w1 ⟨rfl, rfl⟩) | ((with_reducible refine K3.mono ?_); rintro e w1 ⟨rfl, rfl⟩))
                refine bodyPost_ret (v := .bool (heapM l (-2) b)) ?_ rfl ?_
                · rw [EM.out, results_cell1 rfl]; go_simp
                · exact ⟨rfl, HOUT.out _⟩
            · have e2 : (a == -2) = false := by simp [a2]
              have EF : Aside0 (heapM l a b = false) := ⟨by rw [EM.out]; simp [a10, a2]⟩
              go_enter Tryd.func54, Tryd.ntmps54
              go_wp2_with (first | ((with_reducible refine K1.mono ?_); rintro e w1 ⟨rfl, rfl⟩) | ((with_reducible refine K2.mono ?_); rintro e w1 ⟨rfl, rfl⟩) | ((with_reducible refine K3.mono ?_); rintro e w1 ⟨rfl, rfl⟩))
              refine bodyPost_ret (v := .bool (heapM l a b)) ?_ rfl ?_
              · rw [EF.out, results_cell1 rfl]; go_simp
              · exact ⟨rfl, HOUT.out _⟩
      · by_cases nb : b < 0
        · have EM : Aside0 (heapM l a b = absM (kindOf l a) b) := ⟨by unfold heapM; rw [if_pos (by rw [ha, hb]; rfl), if_neg na, if_pos nb]⟩
          have K1 := sis_calls l cb a _ C0.out
          have K2 := sis_calls l cb b _ C0.out
          rw [ha] at K1
          rw [hb] at K2
          have hkin := kindM_in (tyAt l a).f2.f0
          have hkin' : kindOf l a = -1 ∨ kindOf l a = -8 ∨ kindOf l a = -9 := hkin
          have HKI := Aside0.mk hkin'
          clear hkin hkin'
          go_enter Tryd.func54, Tryd.ntmps54
          go_wp2_with (first | ((with_reducible refine K1.mono ?_); rintro e w1 ⟨rfl, rfl⟩) | ((with_reducible refine K2.mono ?_); rintro e w1 ⟨rfl, rfl⟩))
          have HA : Aside0 (0 ≤ a ∧ a < ((flat l).length : Int)) := ⟨by omega, ha1⟩
          have HB : Aside0 (-12 ≤ b ∧ b < 0) := ⟨hb0, nb⟩
          have HK0 : Aside0 (-12 ≤ kindOf l a ∧ kindOf l a < 0) := ⟨by rcases HKI.out with h | h | h <;> rw [h] <;> decide⟩
          have Y0 : (World.heap ((((w.alloc (.cells #[.pointer (some ⟨cb, 0, none⟩)] 99)).alloc (.cells #[.int .i64 b] 3)).alloc (.cells #[.bool false] 4)).drew))[w.heap.size]? = some (.cells #[.pointer (some ⟨cb, 0, none⟩)] 99 (0, 0)) := x0
          have Y1 : (World.heap ((((w.alloc (.cells #[.pointer (some ⟨cb, 0, none⟩)] 99)).alloc (.cells #[.int .i64 b] 3)).alloc (.cells #[.bool false] 4)).drew))[w.heap.size + 1]? = some (.cells #[.int .i64 b] 3 (0, 0)) := x1
          have Y2 : (World.heap ((((w.alloc (.cells #[.pointer (some ⟨cb, 0, none⟩)] 99)).alloc (.cells #[.int .i64 b] 3)).alloc (.cells #[.bool false] 4)).drew))[w.heap.size + 1 + 1]? = some (.cells #[.bool false] 4 (0, 0)) := x2
          have C5 : Aside0 (Ctx l cb ((((w.alloc (.cells #[.pointer (some ⟨cb, 0, none⟩)] 99)).alloc (.cells #[.int .i64 b] 3)).alloc (.cells #[.bool false] 4)).drew)) := ⟨C0.out.below ⟨rfl, rfl, rfl, Nat.le_refl _, fun _ _ => rfl⟩⟩
          have B5 : Aside0 (Below w.heap.size w ((((w.alloc (.cells #[.pointer (some ⟨cb, 0, none⟩)] 99)).alloc (.cells #[.int .i64 b] 3)).alloc (.cells #[.bool false] 4)).drew)) := ⟨B0.out.drew⟩
          refine start_ (n := 6) (S := fun w' => w'.cell? ⟨w.heap.size, 0, none⟩ = some (.pointer (some ⟨cb, 0, none⟩)) ∧ w'.cell? ⟨w.heap.size + 1, 0, none⟩ = some (.int .i64 b) ∧ w'.cell? ⟨w.heap.size + 1 + 1, 0, none⟩ = some (.bool false) ∧ w'.frozen? ⟨w.heap.size + 1 + 1, 0, none⟩ = false) (ds := [5]) #[false, false, false, false, false, false] (by kernel_rfl) rfl rfl ⟨(blk_cell Y0 0).trans rfl, (blk_cell Y1 0).trans rfl, (blk_cell Y2 0).trans rfl, blk_frozen Y2 0⟩ (fun hHeld => ?_)
          generalize World.drew _ = w5 at Y0 Y1 Y2 C5 B5 hHeld ⊢
          refine pure_ (i := 1) (N := some 34) (v := ?_) (a' := ?_) #[false, true, false, false, false, false] rfl rfl (by kernel_rfl) (fun _ _ _ h => h) (Or.inl ⟨by rfl, ?_⟩) ?_ ?_
          rotate_left
          · intro w'
            go_simp
            with_reducible rfl
          rotate_left
          · simp only [Act.put, List.setIfInBounds_toArray, List.set_cons_zero, List.set_cons_succ, i64_w, i32_w]
            rfl
          refine take_ (i := 0) (N := some 33) (v := ?_) (a' := ?_) #[true, true, false, false, false, false] rfl rfl (by kernel_rfl) (fun _ _ _ h => h) (Or.inl ⟨by rfl, ?_⟩) hHeld ?_ ?_
          rotate_left
          · rintro w' ⟨s0, s1, s2, s3⟩
            go_simp
            with_reducible rfl
          rotate_left
          · simp only [Act.put, List.setIfInBounds_toArray, List.set_cons_zero, List.set_cons_succ, i64_w, i32_w]
            rfl
          refine take_ (i := 3) (N := some 36) (v := ?_) (a' := ?_) #[true, true, false, true, false, false] rfl rfl (by kernel_rfl) (fun _ _ _ h => h) (Or.inl ⟨by rfl, ?_⟩) hHeld ?_ ?_
          rotate_left
          · rintro w' ⟨s0, s1, s2, s3⟩
            go_simp
            with_reducible rfl
          rotate_left
          · simp only [Act.put, List.setIfInBounds_toArray, List.set_cons_zero, List.set_cons_succ, i64_w, i32_w]
            rfl
          refine one_ (i := 2) (N := some 35) #[true, true, true, true, false, false] rfl rfl (by kernel_rfl) (by decide) (fun K hK => ?_)
          refine goes_ Tryd.func60 (by kernel_rfl) rfl #[.pointer (some ⟨cb, 0, none⟩), .int .i64 a] (by rfl) rfl rfl (by simp only [List.map_toArray, List.map_cons, List.map_nil]; rfl) ?_
          refine (skind_calls l cb a w5 C5.out HA.out.1 HA.out.2).mono ?_
          rintro e w6 ⟨rfl, rfl⟩
          refine ⟨_, rfl, ?_⟩
          refine hK.out _ _ ⟨(blk_cell Y0 0).trans rfl, (blk_cell Y1 0).trans rfl, (blk_cell Y2 0).trans rfl, blk_frozen Y2 0⟩ (fun hHeld => ?_)
          clear hK K
          refine norm_ (a' := ?_) ?_ ?_
          rotate_left
          · show Act.put _ (some 35) _ = _
            simp only [Act.put, List.setIfInBounds_toArray, List.set_cons_zero, List.set_cons_succ, i64_w, i32_w]
            rfl
          refine one_ (i := 4) (N := some 37) #[true, true, true, true, true, false] rfl rfl (by kernel_rfl) (by decide) (fun K hK => ?_)
          refine goes_ Tryd.func72 (by kernel_rfl) rfl #[.int .i64 (kindOf l a), .int .i64 b] (by rfl) rfl rfl (by simp only [List.map_toArray, List.map_cons, List.map_nil]; rfl) ?_
          refine (sabstract_calls (kindOf l a) b w6 HK0.out.1 HK0.out.2 HB.out.1 HB.out.2).mono ?_
          rintro e w6 ⟨rfl, rfl⟩
          refine ⟨_, rfl, ?_⟩
          refine hK.out _ _ ⟨(blk_cell Y0 0).trans rfl, (blk_cell Y1 0).trans rfl, (blk_cell Y2 0).trans rfl, blk_frozen Y2 0⟩ (fun hHeld => ?_)
          clear hK K
          refine norm_ (a' := ?_) ?_ ?_
          rotate_left
          · show Act.put _ (some 37) _ = _
            simp only [Act.put, List.setIfInBounds_toArray, List.set_cons_zero, List.set_cons_succ, i64_w, i32_w]
            rfl
          refine last_ (i := 5) (N := none) #[true, true, true, true, true, true] rfl rfl (by kernel_rfl) (by decide) (fun K hK => ?_)
          have hs_ : w6.cell? ⟨w.heap.size + 1 + 1, 0, none⟩ = some (.bool false) := (blk_cell Y2 0).trans rfl
          have hfs_ : w6.frozen? ⟨w.heap.size + 1 + 1, 0, none⟩ = false := blk_frozen Y2 0
          refine skip_ (w1 := ?_) (by rfl) rfl ?_ ?_
          rotate_left
          · go_simp
            rfl
          refine hK.out _ _ ?_
          clear hK K
          refine done_ (by kernel_rfl) ?_
          
          have Z2 := blk_set Y2 0 (.bool (absM (kindOf l a) b))
          have zc : (w6.setCell ⟨w.heap.size + 1 + 1, 0, none⟩ (.bool (absM (kindOf l a) b))).cell? ⟨w.heap.size + 1 + 1, 0, none⟩ = some (.bool (absM (kindOf l a) b)) := (blk_cell Z2 0).trans rfl
          have B6 : Below w.heap.size w (w6.setCell ⟨w.heap.size + 1 + 1, 0, none⟩ (.bool (absM (kindOf l a) b))) := B5.out.trans ((Below.refl _ _).setCell (p := ⟨w.heap.size + 1 + 1, 0, none⟩) (by show w.heap.size ≤ w.heap.size + 1 + 1; omega) _)
          go_wp2_with fail
          refine bodyPost_ret (v := .bool (heapM l a b)) ?_ rfl ?_
          · rw [EM.out, results_cell1 rfl]; go_simp
          · exact ⟨rfl, B6⟩
        · have K1 := sis_calls l cb a _ C0.out
          have K2 := sis_calls l cb b _ C0.out
          rw [ha] at K1
          rw [hb] at K2
          have K3 := sabove_calls cb a (((w.alloc (.cells #[.pointer (some ⟨cb, 0, none⟩)] 99)).alloc (.cells #[.int .i64 b] 3)).alloc (.cells #[.bool false] 4))
          refine (callsIn_wide (n := 5)).1 ?_
          refine callsIn_of_wp_marks Tryd.func54 rfl trivial ?_ rfl
          simp only [Tryd.ntmps54, List.size_toArray, List.length_cons, List.length_nil, Nat.reduceAdd, Nat.reduceSub, Array.replicate_succ, Array.replicate_zero, List.push_toArray, List.append_toArray, List.nil_append, List.cons_append]
          gi_wp2_with (refine ⟨trivial, ?_⟩; first | (gi_at_call 57; first | ((with_reducible refine (callsIn_wide.2 K1).mono ?_); rintro e w1 ⟨rfl, rfl⟩) | ((with_reducible refine (callsIn_wide.2 K2).mono ?_); rintro e w1 ⟨rfl, rfl⟩)) | (gi_at_call 59; refine (callsIn_wide.2 K3).mono ?_; rintro e w1 ⟨rfl, rfl⟩))
          obtain ⟨W4, hW4⟩ : ∃ W4, W4 = (((((w.alloc (.cells #[.pointer (some ⟨cb, 0, none⟩)] 99)).alloc (.cells #[.int .i64 b] 3)).alloc (.cells #[.bool false] 4)).alloc (.cells #[.pointer (some ⟨cb, 0, none⟩)] 99)).alloc (.cells #[.int .i64 a] 3)) := ⟨_, rfl⟩
          have hs4 : W4.heap.size = w.heap.size + 1 + 1 + 1 + 1 + 1 := by rw [hW4]; simp
          have hb4 : HB w cb b false W4 := ⟨by rw [hW4]; exact blk_alloc (blk_alloc x0 _) _, by rw [hW4]; exact blk_alloc (blk_alloc x1 _) _, by rw [hW4]; exact blk_alloc (blk_alloc x2 _) _,
            by rw [hW4]; have h := blk_alloc (blk_new (((w.alloc (.cells #[.pointer (some ⟨cb, 0, none⟩)] 99)).alloc (.cells #[.int .i64 b] 3)).alloc (.cells #[.bool false] 4)) (.cells #[.pointer (some ⟨cb, 0, none⟩)] 99)) (.cells #[.int .i64 a] 3); simpa using h,
            by rw [hW4]; exact (B0.out.alloc (by simp; omega) _).alloc (by simp; omega) _⟩
          have hx4 : W4.heap[w.heap.size + 1 + 1 + 1 + 1]? = some (.cells #[.int .i64 a] 3 (0, 0)) := by rw [hW4]; have h := blk_new ((((w.alloc (.cells #[.pointer (some ⟨cb, 0, none⟩)] 99)).alloc (.cells #[.int .i64 b] 3)).alloc (.cells #[.bool false] 4)).alloc (.cells #[.pointer (some ⟨cb, 0, none⟩)] 99)) (.cells #[.int .i64 a] 3); simpa using h
          rw [← hW4]
          have ha' := ha
          have hb' := hb
          clear hW4 K1 K2 K3 x0 x1 x2 C0 B0 HOUT ha hb
          have H4 := Aside0.mk hb4
          have X4 := Aside0.mk hx4
          have S4 := Aside0.mk hs4
          clear hb4 hx4 hs4
          refine range_cell (gf := 75) (lb := #[.pointer (some ⟨w.heap.size + 1 + 1 + 1, 0, none⟩), .pointer (some ⟨w.heap.size + 1 + 1 + 1 + 1, 0, none⟩)]) (nb := w.heap.size + 1 + 1 + 1 + 1) rfl (fun args w => enters_ Tryd.func75 (by kernel_rfl) rfl args w) rfl
            (above_seq l HC.out cb (w.heap.size + 1 + 1 + 1) (w.heap.size + 1 + 1 + 1 + 1) a (by omega) ha1 HLL.out 4) (by rw [S4.out]; omega) X4.out
            (fun p W => HB w cb b false W ∧ ∀ x ∈ p, ¬ SameT l x.toNat b.toNat)
            (fun c p W => c = .ret ∧ HB w cb b true W ∧ ∃ x ∈ p, SameT l x.toNat b.toNat)
            (fun p => HB.stays (by omega) (by rw [S4.out]; omega) _) (fun p W h => ⟨h.1.b3, CW.out.below h.1.bel⟩)
            (fun c p W l_ o hl hlt h => ⟨h.1, h.2.1.put l_ o (by rw [S4.out] at hl; omega) hlt, h.2.2⟩) ⟨H4.out, fun x hx => by cases hx⟩ ?a1 ?assign ?body ?done ?stop
          case assign =>
            intro rl x W K hK
            gi_wp2
            exact hK
          case body =>
            rintro rl p x W ⟨hB, hp⟩ ⟨hx0, hx1⟩
            have HB0 := Aside0.mk hB
            have HP0 := Aside0.mk hp
            obtain ⟨L, Ai, ci, Aa, ca, I, e1, e2, e3, e4, e5, e6⟩ := (CW.out.below hB.bel).ex
            have hIl : I.length = (flat l).length := e6.1
            obtain ⟨ai, v1, eA, g1, q1⟩ := at_int' e4 x.toNat (by omega)
            subst eA
            obtain ⟨ai', v2, eA, g2, q2⟩ := at_int' e4 b.toNat (by omega)
            injection eA with eA
            subst eA
            have y0 : W.cell? ⟨w.heap.size, 0, none⟩ = some (.pointer (some ⟨cb, 0, none⟩)) := (blk_cell hB.b0 0).trans rfl
            have y1 : W.cell? ⟨w.heap.size + 1, 0, none⟩ = some (.int .i64 b) := (blk_cell hB.b1 0).trans rfl
            have y2 : W.cell? ⟨cb, 1, none⟩ = some (.slice (some ai) I.length ci) := (blk_cell e1 1).trans rfl
            have SI : Aside0 (v1 = v2 ↔ SameT l x.toNat b.toNat) := ⟨by rw [← e6.2 x.toNat b.toNat (by omega) (by omega), g1, g2]; simp⟩
            have hxl : x < (I.length : Int) := by omega
            have hbl : b < (I.length : Int) := by omega
            clear e1 e2 e3 e4 e5 e6 hB hp g1 g2 hIl hx1
            gi_wp2
            refine startR_ (by rintro ⟨_, _, h_⟩; exact h_) (by kernel_rfl) (n := 15) (S := fun w' => w'.cell? ⟨w.heap.size, 0, none⟩ = some (.pointer (some ⟨cb, 0, none⟩)) ∧ w'.cell? ⟨w.heap.size + 1, 0, none⟩ = some (.int .i64 b) ∧ w'.cell? ⟨cb, 1, none⟩ = some (.slice (some ai) I.length ci) ∧ w'.cell? (ai.add x.toNat) = some (.int .i64 v1) ∧ w'.cell? (ai.add b.toNat) = some (.int .i64 v2)) (ds := []) #[false, false, false, false, false, false, false, false, false, false, false, false, false, false, false] (by kernel_rfl) rfl rfl ⟨y0, y1, y2, q1, q2⟩ (fun hHeld => ?_)
            refine pure_ (i := 4) (N := some 66) (v := ?_) (a' := ?_) #[false, false, false, false, true, false, false, false, false, false, false, false, false, false, false] rfl rfl (by kernel_rfl) (fun _ _ _ h => h) (Or.inl ⟨by rfl, ?_⟩) ?_ ?_
            rotate_left
            · intro w'
              go_simp
              with_reducible rfl
            rotate_left
            · simp only [Act.put, List.setIfInBounds_toArray, List.set_cons_zero, List.set_cons_succ, i64_w, i32_w]
              rfl
            refine take_ (i := 0) (N := some 62) (v := ?_) (a' := ?_) #[true, false, false, false, true, false, false, false, false, false, false, false, false, false, false] rfl rfl (by kernel_rfl) (fun _ _ _ h => h) (Or.inl ⟨by rfl, ?_⟩) hHeld ?_ ?_
            rotate_left
            · rintro w' ⟨s0, s1, s2, s3, s4⟩
              go_simp
              with_reducible rfl
            rotate_left
            · simp only [Act.put, List.setIfInBounds_toArray, List.set_cons_zero, List.set_cons_succ, i64_w, i32_w]
              rfl
            refine pure_ (i := 1) (N := some 63) (v := ?_) (a' := ?_) #[true, true, false, false, true, false, false, false, false, false, false, false, false, false, false] rfl rfl (by kernel_rfl) (fun _ _ _ h => h) (Or.inl ⟨by rfl, ?_⟩) ?_ ?_
            rotate_left
            · intro w'
              go_simp
              with_reducible rfl
            rotate_left
            · simp only [Act.put, List.setIfInBounds_toArray, List.set_cons_zero, List.set_cons_succ, i64_w, i32_w]
              rfl
            refine pure_ (i := 2) (N := some 64) (v := ?_) (a' := ?_) #[true, true, true, false, true, false, false, false, false, false, false, false, false, false, false] rfl rfl (by kernel_rfl) (fun _ _ _ h => h) (Or.inl ⟨by rfl, ?_⟩) ?_ ?_
            rotate_left
            · intro w'
              go_simp
              with_reducible rfl
            rotate_left
            · simp only [Act.put, List.setIfInBounds_toArray, List.set_cons_zero, List.set_cons_succ, i64_w, i32_w]
              rfl
            refine take_ (i := 3) (N := some 65) (v := ?_) (a' := ?_) #[true, true, true, true, true, false, false, false, false, false, false, false, false, false, false] rfl rfl (by kernel_rfl) (fun _ _ _ h => h) (Or.inl ⟨by rfl, ?_⟩) hHeld ?_ ?_
            rotate_left
            · rintro w' ⟨s0, s1, s2, s3, s4⟩
              go_simp
              with_reducible rfl
            rotate_left
            · simp only [Act.put, List.setIfInBounds_toArray, List.set_cons_zero, List.set_cons_succ, i64_w, i32_w]
              rfl
            refine pure_ (i := 5) (N := some 67) (v := ?_) (a' := ?_) #[true, true, true, true, true, true, false, false, false, false, false, false, false, false, false] rfl rfl (by kernel_rfl) (fun _ _ _ h => h) (Or.inl ⟨by rfl, ?_⟩) ?_ ?_
            rotate_left
            · intro w'
              go_simp
              with_reducible rfl
            rotate_left
            · simp only [Act.put, List.setIfInBounds_toArray, List.set_cons_zero, List.set_cons_succ, i64_w, i32_w]
              rfl
            refine take_ (i := 6) (N := some 68) (v := ?_) (a' := ?_) #[true, true, true, true, true, true, true, false, false, false, false, false, false, false, false] rfl rfl (by kernel_rfl) (fun _ _ _ h => h) (Or.inl ⟨by rfl, ?_⟩) hHeld ?_ ?_
            rotate_left
            · rintro w' ⟨s0, s1, s2, s3, s4⟩
              go_simp
              with_reducible rfl
            rotate_left
            · simp only [Act.put, List.setIfInBounds_toArray, List.set_cons_zero, List.set_cons_succ, i64_w, i32_w]
              rfl
            refine take_ (i := 7) (N := some 69) (v := ?_) (a' := ?_) #[true, true, true, true, true, true, true, true, false, false, false, false, false, false, false] rfl rfl (by kernel_rfl) (fun _ _ _ h => h) (Or.inl ⟨by rfl, ?_⟩) hHeld ?_ ?_
            rotate_left
            · rintro w' ⟨s0, s1, s2, s3, s4⟩
              go_simp
              with_reducible rfl
            rotate_left
            · simp only [Act.put, List.setIfInBounds_toArray, List.set_cons_zero, List.set_cons_succ, i64_w, i32_w]
              rfl
            refine pure_ (i := 8) (N := some 70) (v := ?_) (a' := ?_) #[true, true, true, true, true, true, true, true, true, false, false, false, false, false, false] rfl rfl (by kernel_rfl) (fun _ _ _ h => h) (Or.inl ⟨by rfl, ?_⟩) ?_ ?_
            rotate_left
            · intro w'
              go_simp
              with_reducible rfl
            rotate_left
            · simp only [Act.put, List.setIfInBounds_toArray, List.set_cons_zero, List.set_cons_succ, i64_w, i32_w]
              rfl
            refine pure_ (i := 9) (N := some 71) (v := ?_) (a' := ?_) #[true, true, true, true, true, true, true, true, true, true, false, false, false, false, false] rfl rfl (by kernel_rfl) (fun _ _ _ h => h) (Or.inl ⟨by rfl, ?_⟩) ?_ ?_
            rotate_left
            · intro w'
              go_simp
              with_reducible rfl
            rotate_left
            · simp only [Act.put, List.setIfInBounds_toArray, List.set_cons_zero, List.set_cons_succ, i64_w, i32_w]
              rfl
            refine take_ (i := 10) (N := some 72) (v := ?_) (a' := ?_) #[true, true, true, true, true, true, true, true, true, true, true, false, false, false, false] rfl rfl (by kernel_rfl) (fun _ _ _ h => h) (Or.inl ⟨by rfl, ?_⟩) hHeld ?_ ?_
            rotate_left
            · rintro w' ⟨s0, s1, s2, s3, s4⟩
              go_simp
              with_reducible rfl
            rotate_left
            · simp only [Act.put, List.setIfInBounds_toArray, List.set_cons_zero, List.set_cons_succ, i64_w, i32_w]
              rfl
            refine take_ (i := 11) (N := some 73) (v := ?_) (a' := ?_) #[true, true, true, true, true, true, true, true, true, true, true, true, false, false, false] rfl rfl (by kernel_rfl) (fun _ _ _ h => h) (Or.inl ⟨by rfl, ?_⟩) hHeld ?_ ?_
            rotate_left
            · rintro w' ⟨s0, s1, s2, s3, s4⟩
              go_simp
              with_reducible rfl
            rotate_left
            · simp only [Act.put, List.setIfInBounds_toArray, List.set_cons_zero, List.set_cons_succ, i64_w, i32_w]
              rfl
            refine pure_ (i := 12) (N := some 74) (v := ?_) (a' := ?_) #[true, true, true, true, true, true, true, true, true, true, true, true, true, false, false] rfl rfl (by kernel_rfl) (fun _ _ _ h => h) (Or.inl ⟨by rfl, ?_⟩) ?_ ?_
            rotate_left
            · intro w'
              go_simp
              with_reducible rfl
            rotate_left
            · simp only [Act.put, List.setIfInBounds_toArray, List.set_cons_zero, List.set_cons_succ, i64_w, i32_w]
              rfl
            refine take_ (i := 13) (N := some 75) (v := ?_) (a' := ?_) #[true, true, true, true, true, true, true, true, true, true, true, true, true, true, false] rfl rfl (by kernel_rfl) (fun _ _ _ h => h) (Or.inl ⟨by rfl, ?_⟩) hHeld ?_ ?_
            rotate_left
            · rintro w' ⟨s0, s1, s2, s3, s4⟩
              go_simp
              with_reducible rfl
            rotate_left
            · simp only [Act.put, List.setIfInBounds_toArray, List.set_cons_zero, List.set_cons_succ, i64_w, i32_w]
              rfl
            refine pure_ (i := 14) (N := some 76) (v := ?_) (a' := ?_) #[true, true, true, true, true, true, true, true, true, true, true, true, true, true, true] rfl rfl (by kernel_rfl) (fun _ _ _ h => h) (Or.inl ⟨by rfl, ?_⟩) ?_ ?_
            rotate_left
            · intro w'
              go_simp
              with_reducible rfl
            rotate_left
            · simp only [Act.put, List.setIfInBounds_toArray, List.set_cons_zero, List.set_cons_succ, i64_w, i32_w]
              rfl
            refine done_ (by kernel_rfl) ?_
            
            have HBD : Aside0 (HB w cb b false W.drew) := ⟨⟨HB0.out.b0, HB0.out.b1, HB0.out.b2, HB0.out.b3, HB0.out.bel.drew⟩⟩
            have ED : Aside0 (W.drew.heap = W.heap) := ⟨rfl⟩
            clear hHeld y0 y1 y2 q1 q2
            generalize W.drew = Wd at HBD ED ⊢
            by_cases hv : v1 = v2
            · have hbe : (v1 == v2) = true := by simp [hv]
              have z2 : Wd.cell? ⟨w.heap.size + 1 + 1, 0, none⟩ = some (.bool false) := (blk_cell HBD.out.b2 0).trans rfl
              have f2 : Wd.frozen? ⟨w.heap.size + 1 + 1, 0, none⟩ = false := blk_frozen HBD.out.b2 0
              gi_wp2
              refine ⟨⟨?_, fun k hk1 hk2 => ?_⟩, rfl, HBD.out.store true, x, by simp, SI.out.1 hv⟩
              · rw [← ED.out]; simp
              · rw [← ED.out]; exact Below.heap_setCell Wd ⟨w.heap.size + 1 + 1, 0, none⟩ _ k (by rw [S4.out] at hk1; show k ≠ w.heap.size + 1 + 1; omega)
            · have hbe : (v1 == v2) = false := by simp [hv]
              gi_wp2
              refine ⟨⟨by rw [ED.out]; exact Nat.le_refl _, by rw [ED.out], fun k _ _ => by rw [ED.out]⟩, HBD.out, fun y hy => ?_⟩
              rcases List.mem_append.1 hy with hy | hy
              · exact HP0.out y hy
              · rw [List.mem_singleton.1 hy]; exact fun hs => hv (SI.out.2 hs)
          case done =>
            rintro D p W hD rfl ⟨hB, hp⟩ hK
            have EF : Aside0 (heapM l a b = false) := ⟨by
              rw [Bool.eq_false_iff]
              intro h
              obtain ⟨x, hx, hs⟩ := (heapM_rows ha' hb' (by omega) (by omega)).1 h
              exact hp x hx hs⟩
            have z2 : W.cell? ⟨w.heap.size + 1 + 1, 0, none⟩ = some (.bool false) := (blk_cell hB.b2 0).trans rfl
            have f2 : W.frozen? ⟨w.heap.size + 1 + 1, 0, none⟩ = false := blk_frozen hB.b2 0
            gi_wp2
            have hB2 := hB.store false
            have hK2 : (W.setCell ⟨w.heap.size + 1 + 1, 0, none⟩ (.bool false)).heap[D]? = some (.deferred (some [])) := (Below.heap_setCell W ⟨w.heap.size + 1 + 1, 0, none⟩ _ D (by rw [S4.out] at hD; show D ≠ w.heap.size + 1 + 1; omega)).trans hK
            have hE := hB2.put D (.deferred none) (by rw [S4.out] at hD; omega) (blk_lt' hK2)
            have zc : ((W.setCell ⟨w.heap.size + 1 + 1, 0, none⟩ (.bool false)).putObj D (.deferred none)).cell? ⟨w.heap.size + 1 + 1, 0, none⟩ = some (.bool false) := (blk_cell hE.b2 0).trans rfl
            refine ⟨by simp, .inl ⟨_, _, rfl, run_takeDeferred hK2, ?_⟩⟩
            refine ⟨.bool false, ?_, by rw [EF.out], hE.bel⟩
            rw [results_cell1 rfl]
            go_simp
          case stop =>
            rintro D c p W hD ⟨t, ht⟩ ⟨rfl, hB, x, hx, hs⟩ hK
            gi_wp2
            have EF : Aside0 (heapM l a b = true) := ⟨(heapM_rows ha' hb' (by omega) (by omega)).2 ⟨x, by rw [← ht]; exact List.mem_append_left _ hx, hs⟩⟩
            have hE := hB.put D (.deferred none) (by rw [S4.out] at hD; omega) (blk_lt' hK)
            have zc : (W.putObj D (.deferred none)).cell? ⟨w.heap.size + 1 + 1, 0, none⟩ = some (.bool true) := (blk_cell hE.b2 0).trans rfl
            refine ⟨by simp, .inl ⟨_, _, rfl, run_takeDeferred hK, ?_⟩⟩
            refine ⟨.bool true, ?_, by rw [EF.out], hE.bel⟩
            rw [results_cell1 rfl]
            go_simp
    · have EM : Aside0 (heapM l a b = false) := ⟨heapM_no (fun h => hb h.2)⟩
      have fb : isM l b = false := by simpa using hb
      have K1 := sis_calls l cb a _ C0.out
      have K2 := sis_calls l cb b _ C0.out
      rw [ha] at K1
      rw [fb] at K2
      clear ha hb fb
      go_enter Tryd.func54, Tryd.ntmps54
      go_wp2_with (first | ((with_reducible refine K1.mono ?_); rintro e w1 ⟨rfl, rfl⟩) | ((with_reducible refine K2.mono ?_); rintro e w1 ⟨rfl, rfl⟩))
      refine bodyPost_ret (v := .bool false) ?_ rfl ?_
      · rw [results_cell1 rfl]; go_simp
      · exact ⟨by rw [EM.out], HOUT.out false⟩
  · have EM : Aside0 (heapM l a b = false) := ⟨heapM_no (fun h => ha h.1)⟩
    have fa : isM l a = false := by simpa using ha
    have K1 := sis_calls l cb a _ C0.out
    rw [fa] at K1
    clear ha fa
    go_enter Tryd.func54, Tryd.ntmps54
    go_wp2_with ((with_reducible refine K1.mono ?_); rintro e w1 ⟨rfl, rfl⟩)
    refine bodyPost_ret (v := .bool false) ?_ rfl ?_
    · rw [results_cell1 rfl]; go_simp
    · exact ⟨by rw [EM.out], HOUT.out false⟩
end Go.Proofs.YtfgglniigeagdaaDoor.Cn
namespace Go.Proofs.YtfgglniigeagdaaDoor.QD
open Go.RowKit Go.Proofs.YtfgglniigeagdaaDoorW.PrintWords Go.Proofs.YtfgglniigeagdaaDoorW.PrintLast Go.Proofs.YtfgglniigeagdaaDoorW.PrintMore
attribute [local go_sem] max2_int min2_int max_two min_two max_three min_three max_four min_four 
set_option linter.unusedVariables false
set_option linter.unusedSimpArgs false
def ratchetref07_abstract.j0 : Nat → Int → Int → Bool → Option (Bool)
  | 0, _, _, _ => none
  | k + 1, x0, x8, x45 => if x45 = true then (some (x0 == (-10))) else (if x8 = (-1) then (some (x0 == (-2))) else (if x8 = (-3) then (some (x0 == (-4))) else (if x8 = (-11) then (some (x0 == (-12))) else (some false))))
def ratchetref07_abstract.f (k : Nat) (a0 : Int) (a1 : Int) : Option (Bool) := if a0 = a1 then (some true) else (if a1 = (-5) then (if a0 = (-6) then (some true) else (if a0 = (-7) then (some true) else (if a0 = (-8) then (some true) else (if a0 = (-9) then (some true) else (some (a0 == (-10))))))) else (if a1 = (-6) then (if a0 = (-7) then (some true) else (if a0 = (-8) then (some true) else (if a0 = (-9) then (some true) else (some (a0 == (-10)))))) else (if a1 = (-7) then (ratchetref07_abstract.j0 k a0 a1 (a1 == (-7))) else (if a1 = (-8) then (ratchetref07_abstract.j0 k a0 a1 (a1 == (-8))) else (ratchetref07_abstract.j0 k a0 a1 (a1 == (-9)))))))
set_option maxHeartbeats 8000000 in
set_option maxRecDepth 100000 in
theorem ratchetref07_abstract.calls (k : Nat) (a0 : Int) (a1 : Int) (r : Bool) (w : World) (h : ratchetref07_abstract.f k a0 a1 = some r) :
    Calls Tryd.prog 111 #[.int .i64 a0, .int .i64 a1] w fun e w' => e = .returned (.bool r) ∧ Drawn0 w w' := by
  have H : (if a0 = a1 then (some true) else (if a1 = (-5) then (if a0 = (-6) then (some true) else (if a0 = (-7) then (some true) else (if a0 = (-8) then (some true) else (if a0 = (-9) then (some true) else (some (a0 == (-10))))))) else (if a1 = (-6) then (if a0 = (-7) then (some true) else (if a0 = (-8) then (some true) else (if a0 = (-9) then (some true) else (some (a0 == (-10)))))) else (if a1 = (-7) then (ratchetref07_abstract.j0 k a0 a1 (a1 == (-7))) else (if a1 = (-8) then (ratchetref07_abstract.j0 k a0 a1 (a1 == (-8))) else (ratchetref07_abstract.j0 k a0 a1 (a1 == (-9)))))))) = some r := h
  clear h
  by_cases c3 : a0 = a1
  · rw [if_pos c3] at H
    have c3b0 : (a0 == a1) = true := beq_iff_eq.mpr c3
    have c3b1 : (a0 != a1) = false := bne_eq_false_iff_eq.mpr c3
    clear c3
    obtain rfl := Option.some.inj H
    go_enter Tryd.func111, Tryd.ntmps111
    go_wp2
    go_ret
    exact ⟨by first | rfl | (simp; done) | (simp [*]; done), by repeat (first | exact Drawn0.refl _ | apply Drawn0.step)⟩
  · rw [if_neg c3] at H
    have c3b0 : (a0 == a1) = false := beq_eq_false_iff_ne.mpr c3
    have c3b1 : (a0 != a1) = true := bne_iff_ne.mpr c3
    by_cases c4 : a1 = (-5)
    · rw [if_pos c4] at H
      have c4b0 : (a1 == (-5)) = true := beq_iff_eq.mpr c4
      have c4b1 : (a1 != (-5)) = false := bne_eq_false_iff_eq.mpr c4
      clear c4
      by_cases c5 : a0 = (-6)
      · rw [if_pos c5] at H
        have c5b0 : (a0 == (-6)) = true := beq_iff_eq.mpr c5
        have c5b1 : (a0 != (-6)) = false := bne_eq_false_iff_eq.mpr c5
        clear c5
        obtain rfl := Option.some.inj H
        go_enter Tryd.func111, Tryd.ntmps111
        go_wp2
        go_ret
        exact ⟨by first | rfl | (simp; done) | (simp [*]; done), by repeat (first | exact Drawn0.refl _ | apply Drawn0.step)⟩
      · rw [if_neg c5] at H
        have c5b0 : (a0 == (-6)) = false := beq_eq_false_iff_ne.mpr c5
        have c5b1 : (a0 != (-6)) = true := bne_iff_ne.mpr c5
        by_cases c6 : a0 = (-7)
        · rw [if_pos c6] at H
          have c6b0 : (a0 == (-7)) = true := beq_iff_eq.mpr c6
          have c6b1 : (a0 != (-7)) = false := bne_eq_false_iff_eq.mpr c6
          clear c6
          obtain rfl := Option.some.inj H
          go_enter Tryd.func111, Tryd.ntmps111
          go_wp2
          go_ret
          exact ⟨by first | rfl | (simp; done) | (simp [*]; done), by repeat (first | exact Drawn0.refl _ | apply Drawn0.step)⟩
        · rw [if_neg c6] at H
          have c6b0 : (a0 == (-7)) = false := beq_eq_false_iff_ne.mpr c6
          have c6b1 : (a0 != (-7)) = true := bne_iff_ne.mpr c6
          by_cases c7 : a0 = (-8)
          · rw [if_pos c7] at H
            have c7b0 : (a0 == (-8)) = true := beq_iff_eq.mpr c7
            have c7b1 : (a0 != (-8)) = false := bne_eq_false_iff_eq.mpr c7
            clear c7
            obtain rfl := Option.some.inj H
            go_enter Tryd.func111, Tryd.ntmps111
            go_wp2
            go_ret
            exact ⟨by first | rfl | (simp; done) | (simp [*]; done), by repeat (first | exact Drawn0.refl _ | apply Drawn0.step)⟩
          · rw [if_neg c7] at H
            have c7b0 : (a0 == (-8)) = false := beq_eq_false_iff_ne.mpr c7
            have c7b1 : (a0 != (-8)) = true := bne_iff_ne.mpr c7
            by_cases c8 : a0 = (-9)
            · rw [if_pos c8] at H
              have c8b0 : (a0 == (-9)) = true := beq_iff_eq.mpr c8
              have c8b1 : (a0 != (-9)) = false := bne_eq_false_iff_eq.mpr c8
              clear c8
              obtain rfl := Option.some.inj H
              go_enter Tryd.func111, Tryd.ntmps111
              go_wp2
              go_ret
              exact ⟨by first | rfl | (simp; done) | (simp [*]; done), by repeat (first | exact Drawn0.refl _ | apply Drawn0.step)⟩
            · rw [if_neg c8] at H
              have c8b0 : (a0 == (-9)) = false := beq_eq_false_iff_ne.mpr c8
              have c8b1 : (a0 != (-9)) = true := bne_iff_ne.mpr c8
              obtain rfl := Option.some.inj H
              go_enter Tryd.func111, Tryd.ntmps111
              go_wp2
              go_ret
              exact ⟨by first | rfl | (simp; done) | (simp [*]; done), by repeat (first | exact Drawn0.refl _ | apply Drawn0.step)⟩
    · rw [if_neg c4] at H
      have c4b0 : (a1 == (-5)) = false := beq_eq_false_iff_ne.mpr c4
      have c4b1 : (a1 != (-5)) = true := bne_iff_ne.mpr c4
      by_cases c9 : a1 = (-6)
      · rw [if_pos c9] at H
        have c9b0 : (a1 == (-6)) = true := beq_iff_eq.mpr c9
        have c9b1 : (a1 != (-6)) = false := bne_eq_false_iff_eq.mpr c9
        clear c9
        by_cases c10 : a0 = (-7)
        · rw [if_pos c10] at H
          have c10b0 : (a0 == (-7)) = true := beq_iff_eq.mpr c10
          have c10b1 : (a0 != (-7)) = false := bne_eq_false_iff_eq.mpr c10
          clear c10
          obtain rfl := Option.some.inj H
          go_enter Tryd.func111, Tryd.ntmps111
          go_wp2
          go_ret
          exact ⟨by first | rfl | (simp; done) | (simp [*]; done), by repeat (first | exact Drawn0.refl _ | apply Drawn0.step)⟩
        · rw [if_neg c10] at H
          have c10b0 : (a0 == (-7)) = false := beq_eq_false_iff_ne.mpr c10
          have c10b1 : (a0 != (-7)) = true := bne_iff_ne.mpr c10
          by_cases c11 : a0 = (-8)
          · rw [if_pos c11] at H
            have c11b0 : (a0 == (-8)) = true := beq_iff_eq.mpr c11
            have c11b1 : (a0 != (-8)) = false := bne_eq_false_iff_eq.mpr c11
            clear c11
            obtain rfl := Option.some.inj H
            go_enter Tryd.func111, Tryd.ntmps111
            go_wp2
            go_ret
            exact ⟨by first | rfl | (simp; done) | (simp [*]; done), by repeat (first | exact Drawn0.refl _ | apply Drawn0.step)⟩
          · rw [if_neg c11] at H
            have c11b0 : (a0 == (-8)) = false := beq_eq_false_iff_ne.mpr c11
            have c11b1 : (a0 != (-8)) = true := bne_iff_ne.mpr c11
            by_cases c12 : a0 = (-9)
            · rw [if_pos c12] at H
              have c12b0 : (a0 == (-9)) = true := beq_iff_eq.mpr c12
              have c12b1 : (a0 != (-9)) = false := bne_eq_false_iff_eq.mpr c12
              clear c12
              obtain rfl := Option.some.inj H
              go_enter Tryd.func111, Tryd.ntmps111
              go_wp2
              go_ret
              exact ⟨by first | rfl | (simp; done) | (simp [*]; done), by repeat (first | exact Drawn0.refl _ | apply Drawn0.step)⟩
            · rw [if_neg c12] at H
              have c12b0 : (a0 == (-9)) = false := beq_eq_false_iff_ne.mpr c12
              have c12b1 : (a0 != (-9)) = true := bne_iff_ne.mpr c12
              obtain rfl := Option.some.inj H
              go_enter Tryd.func111, Tryd.ntmps111
              go_wp2
              go_ret
              exact ⟨by first | rfl | (simp; done) | (simp [*]; done), by repeat (first | exact Drawn0.refl _ | apply Drawn0.step)⟩
      · rw [if_neg c9] at H
        have c9b0 : (a1 == (-6)) = false := beq_eq_false_iff_ne.mpr c9
        have c9b1 : (a1 != (-6)) = true := bne_iff_ne.mpr c9
        have HC13 := Aside0.mk H
        clear H
        go_enter Tryd.func111, Tryd.ntmps111
        go_upto_if 45 with (fail)
        go_cut [45] (fun v45 wc => ∃ (kq : Nat) (x45_12 : Bool), v45 = .bool x45_12 ∧ Aside0 (ratchetref07_abstract.j0 kq a0 a1 x45_12 = some r) ∧ Aside0 (kq ≤ k) ∧ Drawn0 w wc)
        case first =>
          have H := HC13.out
          clear HC13
          by_cases c14 : a1 = (-7)
          · rw [if_pos c14] at H
            have c14b0 : (a1 == (-7)) = true := beq_iff_eq.mpr c14
            have c14b1 : (a1 != (-7)) = false := bne_eq_false_iff_eq.mpr c14
            clear c14
            (first | rw [c14b0] | (simp only [i64_w, i32_w]; rw [c14b0]) | skip)
            have H' := Aside0.mk H
            clear H
            go_wp2
            go_meet
            case rel => exact ⟨_, ((a1 == (-7))), (by first | rfl | (simp; done) | (simp [*]; done)), H', ⟨by first | omega | exact Nat.le_refl _⟩, by repeat (first | exact Drawn0.refl _ | apply Drawn0.step)⟩
          · rw [if_neg c14] at H
            have c14b0 : (a1 == (-7)) = false := beq_eq_false_iff_ne.mpr c14
            have c14b1 : (a1 != (-7)) = true := bne_iff_ne.mpr c14
            (first | rw [c14b0] | (simp only [i64_w, i32_w]; rw [c14b0]) | skip)
            by_cases c15 : a1 = (-8)
            · rw [if_pos c15] at H
              have c15b0 : (a1 == (-8)) = true := beq_iff_eq.mpr c15
              have c15b1 : (a1 != (-8)) = false := bne_eq_false_iff_eq.mpr c15
              clear c15
              have H' := Aside0.mk H
              clear H
              go_wp2
              go_meet
              case rel => exact ⟨_, ((a1 == (-8))), (by first | rfl | (simp; done) | (simp [*]; done)), H', ⟨by first | omega | exact Nat.le_refl _⟩, by repeat (first | exact Drawn0.refl _ | apply Drawn0.step)⟩
            · rw [if_neg c15] at H
              have c15b0 : (a1 == (-8)) = false := beq_eq_false_iff_ne.mpr c15
              have c15b1 : (a1 != (-8)) = true := bne_iff_ne.mpr c15
              have H' := Aside0.mk H
              clear H
              go_wp2
              go_meet
              case rel => exact ⟨_, ((a1 == (-9))), (by first | rfl | (simp; done) | (simp [*]; done)), H', ⟨by first | omega | exact Nat.le_refl _⟩, by repeat (first | exact Drawn0.refl _ | apply Drawn0.step)⟩
        case rest =>
          clear HC13
          try clear c1
          try clear p2
          try clear c3
          try clear c3b0
          try clear c3b1
          try clear c4
          try clear c4b0
          try clear c4b1
          try clear c5
          try clear c5b0
          try clear c5b1
          try clear c6
          try clear c6b0
          try clear c6b1
          try clear c7
          try clear c7b0
          try clear c7b1
          try clear c8
          try clear c8b0
          try clear c8b1
          try clear c9
          try clear c9b0
          try clear c9b1
          try clear c10
          try clear c10b0
          try clear c10b1
          try clear c11
          try clear c11b0
          try clear c11b1
          try clear c12
          try clear c12b0
          try clear c12b1
          try clear c14
          try clear c14b0
          try clear c14b1
          try clear c15
          try clear c15b0
          try clear c15b1
          obtain ⟨kq, x45_12, rfl, HA, HJ12, ⟨mc12, rfl⟩⟩ := hcut
          cases kq with
          | zero => exact absurd HA.out (by simp [ratchetref07_abstract.j0])
          | succ kj12 =>
            have H := HA.out
            clear HA
            simp only [ratchetref07_abstract.j0] at H
            by_cases c16 : x45_12 = true
            · subst c16
              have H1 : (some (a0 == (-10))) = some r := by rw [if_pos rfl] at H; exact H
              clear H
              have H := H1
              clear H1
              obtain rfl := Option.some.inj H
              go_wp2
              go_ret
              exact ⟨by first | rfl | (simp; done) | (simp [*]; done), by repeat (first | exact Drawn0.refl _ | apply Drawn0.step)⟩
            · replace c16 := Bool.eq_false_iff.mpr c16
              subst c16
              have H1 : (if a1 = (-1) then (some (a0 == (-2))) else (if a1 = (-3) then (some (a0 == (-4))) else (if a1 = (-11) then (some (a0 == (-12))) else (some false)))) = some r := by rw [if_neg (show ¬ (false = true) by decide)] at H; exact H
              clear H
              have H := H1
              clear H1
              by_cases c17 : a1 = (-1)
              · rw [if_pos c17] at H
                have c17b0 : (a1 == (-1)) = true := beq_iff_eq.mpr c17
                have c17b1 : (a1 != (-1)) = false := bne_eq_false_iff_eq.mpr c17
                clear c17
                obtain rfl := Option.some.inj H
                go_wp2
                go_ret
                exact ⟨by first | rfl | (simp; done) | (simp [*]; done), by repeat (first | exact Drawn0.refl _ | apply Drawn0.step)⟩
              · rw [if_neg c17] at H
                have c17b0 : (a1 == (-1)) = false := beq_eq_false_iff_ne.mpr c17
                have c17b1 : (a1 != (-1)) = true := bne_iff_ne.mpr c17
                by_cases c18 : a1 = (-3)
                · rw [if_pos c18] at H
                  have c18b0 : (a1 == (-3)) = true := beq_iff_eq.mpr c18
                  have c18b1 : (a1 != (-3)) = false := bne_eq_false_iff_eq.mpr c18
                  clear c18
                  obtain rfl := Option.some.inj H
                  go_wp2
                  go_ret
                  exact ⟨by first | rfl | (simp; done) | (simp [*]; done), by repeat (first | exact Drawn0.refl _ | apply Drawn0.step)⟩
                · rw [if_neg c18] at H
                  have c18b0 : (a1 == (-3)) = false := beq_eq_false_iff_ne.mpr c18
                  have c18b1 : (a1 != (-3)) = true := bne_iff_ne.mpr c18
                  by_cases c19 : a1 = (-11)
                  · rw [if_pos c19] at H
                    have c19b0 : (a1 == (-11)) = true := beq_iff_eq.mpr c19
                    have c19b1 : (a1 != (-11)) = false := bne_eq_false_iff_eq.mpr c19
                    clear c19
                    obtain rfl := Option.some.inj H
                    go_wp2
                    go_ret
                    exact ⟨by first | rfl | (simp; done) | (simp [*]; done), by repeat (first | exact Drawn0.refl _ | apply Drawn0.step)⟩
                  · rw [if_neg c19] at H
                    have c19b0 : (a1 == (-11)) = false := beq_eq_false_iff_ne.mpr c19
                    have c19b1 : (a1 != (-11)) = true := bne_iff_ne.mpr c19
                    obtain rfl := Option.some.inj H
                    go_wp2
                    go_ret
                    exact ⟨by first | rfl | (simp; done) | (simp [*]; done), by repeat (first | exact Drawn0.refl _ | apply Drawn0.step)⟩
end Go.Proofs.YtfgglniigeagdaaDoor.QD
namespace Go.Proofs.YtfgglniigeagdaaDoor.Cn
set_option linter.unusedSimpArgs false
set_option linter.unusedVariables false
open Go.RowKit Go.Maps Go.Proofs.YtfgglniigeagdaaDoorW.PrintWords Go.Proofs.YtfgglniigeagdaaDoorW.PrintLast Go.Proofs.YtfgglniigeagdaaDoorW.PrintMore Go.Proofs.YtfgglniigeagdaaDoor.QD
set_option maxRecDepth 100000 in
theorem SHeap_yes (A : Option Addr) (c : Nat) (l : List S62) (a b : Int) (w : World) (hl : LA w A c l) (hc : Clo l) (htab : Lib.TabBelow Tryd.prog w.heap.size w "internal/strconv.uint64pow10" .u64 Lib.pow10Tab) :
    Calls Tryd.prog 31 #[.slice A l.length c, .int .i64 a, .int .i64 b] w fun e w' => e = .returned (.bool (heapM l a b)) ∧ Below w.heap.size w w' := by
  have K := opened_calls A c l w hl htab
  have HC := Aside0.mk hc
  have hw := hl.w
  have htc := tcount_le_wL l
  have HF : Aside0 ((flat l).length ≤ 1048576) := ⟨by rw [flat_length]; omega⟩
  clear hl hc htab hw htc
  go_enter Tryd.func31, Tryd.ntmps31
  go_wp2_with fail
  refine K.mono ?_
  rintro e w1 ⟨hb, ⟨_, rfl, hx⟩ | ⟨hn, _⟩⟩
  rotate_left
  · exact absurd HC.out hn
  have B1 := Aside0.mk hb
  have X1 := Aside0.mk hx
  clear hb hx K
  go_wp2_with fail
  refine (sheap_calls l HC.out w.heap.size a b w1 X1.out HF.out).mono ?_
  rintro e w2 ⟨rfl, hb⟩
  have B2 := Aside0.mk (B1.out.trans (hb.mono B1.out.size))
  clear hb
  go_wp2_with fail
  go_ret
  exact ⟨rfl, B2.out⟩
theorem LA.nil (w : World) : LA w none 0 [] := ⟨Kd.C_nil _ _, Nat.le_refl _, (fun r hr => (by cases hr)), by simp [wL]⟩
theorem clo_nil : Clo ([] : List S62) := fun j r h => by simp at h
set_option maxRecDepth 100000 in
theorem awake_calls (w : World) (htab : Lib.TabBelow Tryd.prog w.heap.size w "internal/strconv.uint64pow10" .u64 Lib.pow10Tab) : Calls Tryd.prog 30 #[] w fun e w' => e = .returned (.bool true) ∧ Below w.heap.size w w' := by
  have HT := Aside0.mk htab
  have K1 := SHeap_yes none 0 [] (-10) (-6) w (LA.nil w) clo_nil htab
  have e1 : heapM [] (-10) (-6) = true := by simp [heapM, isM, absM, famH, flat]
  have e2 : heapM [] (-6) (-7) = false := by simp [heapM, isM, absM, absL, upH, flat]
  rw [e1] at K1
  clear htab
  go_enter Tryd.func30, Tryd.ntmps30
  go_wp2_with fail
  refine K1.mono ?_
  rintro e w1 ⟨rfl, hb⟩
  have B1 := Aside0.mk hb
  clear hb K1
  go_wp2_with fail
  have K2 := SHeap_yes none 0 [] (-6) (-7) w1 (LA.nil w1) clo_nil (tab_mono (HT.out.on B1.out) B1.out.size)
  rw [e2] at K2
  refine K2.mono ?_
  rintro e w2 ⟨rfl, hb⟩
  have B2 := Aside0.mk (B1.out.trans (hb.mono B1.out.size))
  clear hb K2
  go_wp2_with fail
  go_ret
  exact ⟨rfl, B2.out⟩
theorem r5Count_calls (A : Option Addr) (c : Nat) (l : List S62) (w : World) (hl : LA w A c l) : Calls Tryd.prog 29 #[.slice A l.length c] w fun e w' => e = .returned (.int .i64 ((flat l).length : Int)) ∧ Below w.heap.size w w' := by
  have hw := hl.w
  have htc := tcount_le_wL l
  rw [flat_length]
  exact (ratchetref05_Count.calls (l.length + 1) A c l _ w hl.C hl.cap (r5count l (by omega) (by omega) _ (Nat.le_refl _))).mono fun e w' ⟨he, hb⟩ => ⟨he, hb.below⟩
set_option maxRecDepth 100000 in
theorem r7abstract_calls (a b : Int) (w : World) (a0 : -12 ≤ a) (a1 : a < 0) (b0 : -12 ≤ b) (b1 : b < 0) : Calls Tryd.prog 111 #[.int .i64 a, .int .i64 b] w fun e w' => e = .returned (.bool (absM a b)) ∧ Below w.heap.size w w' := by
  have hf : ratchetref07_abstract.f 1 a b = some (absM a b) := by
    rcases abs_cases b0 (by omega) with rfl | rfl | rfl | rfl | rfl | rfl | rfl | rfl | rfl | rfl | rfl | rfl | rfl
    · omega
    all_goals rcases abs_cases a0 (by omega) with rfl | rfl | rfl | rfl | rfl | rfl | rfl | rfl | rfl | rfl | rfl | rfl | rfl
    all_goals first
      | (exact absurd a1 (by decide))
      | rfl
      | decide
  exact (ratchetref07_abstract.calls 1 a b _ w hf).mono fun e w' ⟨he, hb⟩ => ⟨he, hb.below⟩
set_option maxRecDepth 100000 in
theorem r7one_calls (A : Option Addr) (c : Nat) (l : List S62) (x y : Int) (w : World) (hl : LA w A c l) : Calls Tryd.prog 116 #[.slice A l.length c, .int .i64 x, .int .i64 y] w fun e w' => e = .returned (.bool (oneM l l x y).1) ∧ Below w.heap.size w w' := by
  obtain ⟨b, k, h⟩ : ∃ b k, oneM l l x y = (b, k) := ⟨_, _, rfl⟩
  have K := r6Same_calls A c l x y w hl b k h
  rw [h]
  clear hl h
  go_enter Tryd.func116, Tryd.ntmps116
  go_wp2_with fail
  refine K.mono ?_
  rintro e w1 ⟨rfl, hb⟩
  have B1 := Aside0.mk hb
  clear hb K
  go_wp2_with fail
  go_ret
  exact ⟨rfl, B1.out⟩
set_option maxRecDepth 100000 in
theorem r7is_calls (A : Option Addr) (c : Nat) (l : List S62) (h : Int) (w : World) (hl : LA w A c l) : Calls Tryd.prog 104 #[.slice A l.length c, .int .i64 h] w fun e w' => e = .returned (.bool (isM l h)) ∧ Below w.heap.size w w' := by
  have K := r5Count_calls A c l w hl
  clear hl
  by_cases g : -12 ≤ h
  · go_enter Tryd.func104, Tryd.ntmps104
    go_wp2_with fail
    refine K.mono ?_
    rintro e w1 ⟨rfl, hb⟩
    have B1 := Aside0.mk hb
    clear hb K
    go_wp2_with fail
    go_ret
    exact ⟨by simp [isM, g], B1.out⟩
  · clear K
    go_enter Tryd.func104, Tryd.ntmps104
    go_wp2_with fail
    go_ret
    exact ⟨by simp [isM]; omega, Below.refl _ _⟩
set_option maxRecDepth 100000 in
theorem r7closed_yes (A : Option Addr) (c : Nat) (l : List S62) (w : World) (hl : LA w A c l) (hc : Clo l) : Calls Tryd.prog 87 #[.slice A l.length c] w fun e w' => e = .returned (.bool true) ∧ Below w.heap.size w w' := by
  have K := closed_ref A c l w hl
  have HC := Aside0.mk hc
  clear hl hc
  go_enter Tryd.func87, Tryd.ntmps87
  go_wp2_with fail
  refine K.mono ?_
  rintro e w1 ⟨⟨n, er, rfl, ho⟩, hb⟩
  obtain ⟨rfl, rfl⟩ := ho.yes HC.out
  have B1 := Aside0.mk hb
  clear hb K ho
  go_wp2_with fail
  go_ret
  exact ⟨rfl, B1.out⟩
theorem results_cell_t3 {P : Program} {fn : Func} {p u v x : Tmp} {ty : TypeId} (h : fn.results = #[.cell p ty, .tmp u, .tmp v, .tmp x]) (tmps : Array Value) (w : World) (g : Nat) (cs : Array Value)
    (hp : tmps.getD p undef = .pointer (some ⟨g, 0, none⟩)) (hl : (loadVar ty ⟨g, 0, none⟩).run P w = .ok (.agg cs) w) :
    (results fn tmps).run P w = .ok (.tuple #[.agg cs, tmps.getD u undef, tmps.getD v undef, tmps.getD x undef]) w := by
  have hp' : tmps[p]?.getD undef = .pointer (some ⟨g, 0, none⟩) := by simpa using hp
  simp [results, h, hp', asAddr, hl, Sem.run_bind, Result.andThen]
/-- A type's cells, in memory of others. -/
def TyIn (w : World) (s : S53) (A1 : Option Addr) (c1 : Nat) (A3 : Option Addr) (c3 : Nat) (A4 : Option Addr) (c4 : Nat) (A5 : Option Addr) (c5 : Nat) : Prop :=
  k53.K w s [.bool s.f0, .slice A1 s.f1.length c1, .int .i64 s.f2.f0, .slice A3 s.f2.f1.length c3, .slice A4 s.f2.f2.length c4, .slice A5 s.f2.f3.length c5]
set_option maxRecDepth 100000 in
set_option maxHeartbeats 8000000 in
theorem r5At_calls (A : Option Addr) (c : Nat) (l : List S62) (n : Int) (w : World) (hl : LA w A c l) (n0 : 0 ≤ n) (n1 : n < ((flat l).length : Int)) :
    Calls Tryd.prog 36 #[.slice A l.length c, .int .i64 n] w fun e w' => ∃ A1 c1 A3 c3 A4 c4 A5 c5 i p, e = .returned (.tuple #[.agg #[.bool (tyAt l n).f0, .slice A1 (tyAt l n).f1.length c1, .int .i64 (tyAt l n).f2.f0, .slice A3 (tyAt l n).f2.f1.length c3, .slice A4 (tyAt l n).f2.f2.length c4, .slice A5 (tyAt l n).f2.f3.length c5], .int .i64 i, .int .i64 p, .bool true]) ∧ TyIn w (tyAt l n) A1 c1 A3 c3 A4 c4 A5 c5 ∧ Below w.heap.size w w' := by
  have HL := Aside0.mk hl
  have hw := hl.w
  have htc := tcount_le_wL l
  have hfl := flat_length l
  have N0 := Aside0.mk n0
  have N1 := Aside0.mk n1
  have hll : l.length ≤ 1048576 := by omega
  have HT : Aside0 (tcount l ≤ 1048576) := ⟨by omega⟩
  have hb0 : Below w.heap.size w (w.alloc (.cells #[.bool false, .slice none 0 0, .int .i64 0, .slice none 0 0, .slice none 0 0, .slice none 0 0] 53)) := (Below.refl _ _).alloc (Nat.le_refl _) _
  have HB := Aside0.mk hb0
  clear hl hw htc hb0
  go_enter Tryd.func36, Tryd.ntmps36
  go_wp2_with fail
  clear n0 n1
  go_loopw [1, 8] (fun v i W => ∃ (j : Nat) (x : Int), i = .int .i64 j ∧ j ≤ l.length ∧ v = .int .i64 x ∧ 0 ≤ x ∧ n = (tcount (l.take j) : Int) + x ∧ W = w.alloc (.cells #[.bool false, .slice none 0 0, .int .i64 0, .slice none 0 0, .slice none 0 0, .slice none 0 0] 53)) (fun _ i _ => l.length - (intOf i).toNat)
  case atStart => exact ⟨0, n, rfl, Nat.zero_le _, rfl, N0.out, by simp [tcount], rfl⟩
  case round =>
    obtain ⟨j, x, rfl, hj, rfl, x0, hx, rfl⟩ := hrel
    have HX := Aside0.mk hx
    clear hx
    have j0 : (0 : Int) ≤ (j : Int) := Int.natCast_nonneg j
    by_cases hlj : j < l.length
    · obtain ⟨ad, Ar, cr, rfl, d0, d1, hrc, hrC⟩ := at_T62 HL.out.C (j : Int) j0 (by omega)
      have HRJ := Aside0.mk (rd_RT_at l j hlj)
      simp only [Int.toNat_natCast] at d0 d1
      obtain ⟨r, hre⟩ : ∃ r, r = rd_T62 l (j : Int) := ⟨_, rfl⟩
      rw [← hre] at d0 d1 hrc hrC HRJ
      clear hre
      replace d0 := (HB.out.cell (World.block_lt_of_cell? w _ d0)).trans d0
      have jl : (j : Int) < (l.length : Int) := by omega
      by_cases hxr : x < (r.f0.length : Int)
      · obtain ⟨ae, A1, c1, A3, c3, A4, c4, A5, c5, rfl, e0, e1, e2, e3, e4, e5, m1, r1, m3, r3, m4, r4, m5, r5⟩ := at_T53 hrC x x0 hxr
        have hty : rd_T53 r.f0 x = tyAt l n := by
          have h1 := flat_get HRJ.out (o := x.toNat) (by omega)
          have h2 : n.toNat = tcount (l.take j) + x.toNat := by have := HX.out; omega
          unfold tyAt rd_T53
          rw [List.getD_eq_getElem?_getD, List.getD_eq_getElem?_getD, h2, h1]
        rw [hty] at e0 e1 e2 e3 e4 e5 m1 r1 m3 r3 m4 r4 m5 r5
        have K := Aside0.mk (show TyIn w (tyAt l n) A1 c1 A3 c3 A4 c4 A5 c5 from k53_mk w (tyAt l n) m1 r1 m3 r3 m4 r4 m5 r5)
        obtain ⟨s, hs⟩ : ∃ s, s = tyAt l n := ⟨_, rfl⟩
        rw [← hs] at e0 e1 e2 e3 e4 e5 K
        have HS := Aside0.mk hs
        replace e0 := (HB.out.cell (World.block_lt_of_cell? w _ e0)).trans e0
        replace e1 := (HB.out.cell (World.block_lt_of_cell? w _ e1)).trans e1
        replace e2 := (HB.out.cell (World.block_lt_of_cell? w _ e2)).trans e2
        replace e3 := (HB.out.cell (World.block_lt_of_cell? w _ e3)).trans e3
        replace e4 := (HB.out.cell (World.block_lt_of_cell? w _ e4)).trans e4
        replace e5 := (HB.out.cell (World.block_lt_of_cell? w _ e5)).trans e5
        clear m1 r1 m3 r3 m4 r4 m5 r5 hs hty hrc hrC d1
        go_wp2_with fail
        refine bodyPost_ret (results_cell_t3 rfl _ _ w.heap.size #[.bool s.f0, .slice A1 s.f1.length c1, .int .i64 s.f2.f0, .slice A3 s.f2.f1.length c3, .slice A4 s.f2.f2.length c4, .slice A5 s.f2.f3.length c5] rfl (run_loadVar_row _ _ 53 53 _ (0, 0) _ (blk_new w _) Tryd.underlying53 rfl (by kernel_rfl))) rfl ?_
        rw [← HS.out]
        exact ⟨A1, c1, A3, c3, A4, c4, A5, c5, (j : Int), x, rfl, K.out, (Below.refl _ _).alloc (Nat.le_refl _) _⟩
      · have hwx : wrap64 (x - (r.f0.length : Int)) = x - r.f0.length := by
          have h1 := tcount_take_le l j r HRJ.out
          have h2 := HX.out
          have h3 := N1.out
          have h4 := HT.out
          unfold wrap64; omega
        clear d1 hrc hrC
        go_wp2_with fail
        go_roundw
        case rel => exact ⟨j + 1, x - r.f0.length, by go_num, by omega, by rw [hwx], by omega, by rw [tcount_take l j r HRJ.out]; have := HX.out; push_cast; omega, trivial⟩
        case measure => simp [intOf]; omega
    · exfalso
      obtain rfl : j = l.length := by omega
      have h1 := HX.out
      have h2 := N1.out
      rw [List.take_length] at h1
      omega
/-- At, with its type's cells named. -/
theorem TyIn.open {w : World} {s : S53} {A1 : Option Addr} {c1 : Nat} {A3 : Option Addr} {c3 : Nat} {A4 : Option Addr} {c4 : Nat} {A5 : Option Addr} {c5 : Nat} (h : TyIn w s A1 c1 A3 c3 A4 c4 A5 c5) :
    (s.f1.length ≤ c1 ∧ (Kd.int .i64).C w A1 s.f1.length s.f1) ∧ (s.f2.f1.length ≤ c3 ∧ k74.C w A3 s.f2.f1.length s.f2.f1) ∧ (s.f2.f2.length ≤ c4 ∧ k74.C w A4 s.f2.f2.length s.f2.f2) ∧ (s.f2.f3.length ≤ c5 ∧ k118.C w A5 s.f2.f3.length s.f2.f3) := by
  obtain ⟨B1, d1, B3, d3, B4, d4, B5, d5, e, l1, g1, l3, g3, l4, g4, l5, g5⟩ := k53_open h
  simp only [List.cons.injEq, Value.slice.injEq, and_true, true_and] at e
  obtain ⟨⟨rfl, rfl⟩, ⟨rfl, rfl⟩, ⟨rfl, rfl⟩, rfl, rfl⟩ := e
  exact ⟨⟨l1, g1⟩, ⟨l3, g3⟩, ⟨l4, g4⟩, l5, g5⟩
/-- What above hands back, of a type's supers. -/
def aboveV : List Int → Value
  | [] => .tuple #[.int .i64 0, .bool false]
  | y :: _ => .tuple #[.int .i64 y, .bool true]
set_option maxRecDepth 100000 in
theorem r7above_calls (A : Option Addr) (c : Nat) (l : List S62) (n : Int) (w : World) (hl : LA w A c l) (n0 : 0 ≤ n) (n1 : n < ((flat l).length : Int)) :
    Calls Tryd.prog 86 #[.slice A l.length c, .int .i64 n] w fun e w' => e = .returned (aboveV (tyAt l n).f1) ∧ Below w.heap.size w w' := by
  have K := r5At_calls A c l n w hl n0 n1
  clear hl
  go_enter Tryd.func86, Tryd.ntmps86
  go_wp2_with fail
  refine K.mono ?_
  rintro e w1 ⟨A1, c1, A3, c3, A4, c4, A5, c5, i, p, rfl, hty, hb⟩
  have B1 := Aside0.mk hb
  obtain ⟨⟨m1, r1⟩, _⟩ := hty.open
  obtain ⟨s, hs⟩ : ∃ s, s = tyAt l n := ⟨_, rfl⟩
  rw [← hs] at r1 m1 ⊢
  have HS := Aside0.mk hs
  have B2 : Aside0 (Below w.heap.size w (w1.alloc (.cells #[.bool s.f0, .slice A1 s.f1.length c1, .int .i64 s.f2.f0, .slice A3 s.f2.f1.length c3, .slice A4 s.f2.f2.length c4, .slice A5 s.f2.f3.length c5] 53))) := ⟨hb.alloc hb.size _⟩
  clear hty hs K
  rcases hz : s.f1 with _ | ⟨y, t⟩
  · rw [hz] at B2
    go_wp2_with fail
    go_ret2
    exact ⟨by first | rfl | (rw [hz]; rfl) | (rw [← HS.out, hz]; rfl), B2.out⟩
  · rw [hz] at r1 B2
    obtain ⟨ai, z, eA, hq, hcz⟩ := at_int' r1 0 (by simp)
    subst eA
    obtain rfl : y = z := by simpa using hq
    have hcz' : (w1.alloc (.cells #[.bool s.f0, .slice (some ai) (y :: t).length c1, .int .i64 s.f2.f0, .slice A3 s.f2.f1.length c3, .slice A4 s.f2.f2.length c4, .slice A5 s.f2.f3.length c5] 53)).cell? ai = some (.int .i64 y) := by
      have e_ : ai.add 0 = ai := (by simp [Addr.add])
      rw [e_] at hcz
      exact (B2.out.cell (World.block_lt_of_cell? w _ hcz)).trans hcz
    have h0l : (0 : Int) < ((y :: t).length : Int) := by simp
    have hbl : ai.block < w1.heap.size := by
      have e_ : ai.add 0 = ai := (by simp [Addr.add])
      rw [e_] at hcz
      have := World.block_lt_of_cell? w _ hcz
      have := B1.out.size
      omega
    have hcw : w1.cell? ai = some (.int .i64 y) := by
      have e_ : ai.add 0 = ai := (by simp [Addr.add])
      rw [e_] at hcz
      exact (B1.out.cell (World.block_lt_of_cell? w _ hcz)).trans hcz
    clear hcz hq r1
    go_wp2_with fail
    go_ret2
    exact ⟨by first | rfl | (rw [hz]; rfl) | (rw [← HS.out, hz]; rfl), B2.out⟩
set_option maxRecDepth 100000 in
theorem r7kind_calls (A : Option Addr) (c : Nat) (l : List S62) (n : Int) (w : World) (hl : LA w A c l) (n0 : 0 ≤ n) (n1 : n < ((flat l).length : Int)) :
    Calls Tryd.prog 113 #[.slice A l.length c, .int .i64 n] w fun e w' => e = .returned (.int .i64 (kindOf l n)) ∧ Below w.heap.size w w' := by
  have K := r5At_calls A c l n w hl n0 n1
  clear hl
  go_enter Tryd.func113, Tryd.ntmps113
  go_wp2_with fail
  refine K.mono ?_
  rintro e w1 ⟨A1, c1, A3, c3, A4, c4, A5, c5, i, p, rfl, hty, hb⟩
  obtain ⟨s, hs⟩ : ∃ s, s = tyAt l n := ⟨_, rfl⟩
  rw [← hs]
  have EK : Aside0 (kindOf l n = kindM s.f2.f0) := ⟨by rw [hs]; rfl⟩
  have B2 : Aside0 (Below w.heap.size w (w1.alloc (.cells #[.bool s.f0, .slice A1 s.f1.length c1, .int .i64 s.f2.f0, .slice A3 s.f2.f1.length c3, .slice A4 s.f2.f2.length c4, .slice A5 s.f2.f3.length c5] 53))) := ⟨hb.alloc hb.size _⟩
  clear hty K hs hb
  by_cases g1 : s.f2.f0 = 1
  · rw [g1] at B2 EK
    go_wp2_with fail
    go_ret
    exact ⟨by rw [EK.out]; rfl, B2.out⟩
  · by_cases g2 : s.f2.f0 = 2
    · rw [g2] at B2 EK
      go_wp2_with fail
      go_ret
      exact ⟨by rw [EK.out]; rfl, B2.out⟩
    · go_wp2_with fail
      go_ret
      exact ⟨by rw [EK.out]; simp [kindM, g1, g2], B2.out⟩
noncomputable def rowsM (l : List S62) (a b : Int) : Bool := (chain l ((flat l).length + 1) a).any fun x => (oneM l l (x.toNat : Int) (b.toNat : Int)).1
theorem LA.flat_le {w : World} {A : Option Addr} {c : Nat} {l : List S62} (h : LA w A c l) : (flat l).length ≤ 1048576 := by
  have hw := h.w
  have htc := tcount_le_wL l
  rw [flat_length]
  omega
set_option maxRecDepth 100000 in
set_option maxHeartbeats 8000000 in
theorem r7rows_calls (A : Option Addr) (c : Nat) (l : List S62) (a b : Int) (w : World) (hl : LA w A c l) (hc : Clo l) (a0 : 0 ≤ a) (a1 : a < ((flat l).length : Int)) (b0 : 0 ≤ b) :
    Calls Tryd.prog 112 #[.slice A l.length c, .int .i64 a, .int .i64 b] w fun e w' => e = .returned (.bool (rowsM l a b)) ∧ Below w.heap.size w w' := by
  have HL := Aside0.mk hl
  have HC := Aside0.mk hc
  have hll := hl.flat_le
  obtain ⟨m, hm⟩ : ∃ m, m = (flat l).length := ⟨_, rfl⟩
  have HM := Aside0.mk hm
  rw [← hm] at a1 hll
  have eb : ((b.toNat : Nat) : Int) = b := by omega
  have EB := Aside0.mk eb
  have A01 := Aside0.mk (And.intro a0 a1)
  clear hl hc hm eb a0 a1
  go_enter Tryd.func112, Tryd.ntmps112
  go_wp2_with fail
  go_loopw [1, 7] (fun v i W => ∃ (k : Nat) (x : Int) (p : List Int), i = .int .i64 k ∧ k ≤ m + 1 ∧ v = .int .i64 x ∧ (0 ≤ x ∧ x < (m : Int)) ∧ p ++ chain l (m + 1 - k) x = chain l (m + 1) a ∧ (∀ y ∈ p, (oneM l l (y.toNat : Int) b).1 = false) ∧ Below w.heap.size w W) (fun _ i _ => m + 1 - (intOf i).toNat)
  case atStart => exact ⟨0, a, [], rfl, Nat.zero_le _, rfl, A01.out, rfl, (fun y hy => by cases hy), Below.refl _ _⟩
  case round =>
    obtain ⟨k, x, p, rfl, hk, rfl, ⟨x0, x1⟩, hch, hp, hbw⟩ := hrel
    have HCH := Aside0.mk hch
    have HP := Aside0.mk hp
    have W0 := Aside0.mk hbw
    have KC := r5Count_calls A c l wr (HL.out.below hbw)
    rw [← HM.out] at KC
    clear hch hp hbw
    have k0 : (0 : Int) ≤ (k : Int) := Int.natCast_nonneg k
    have hwk : wrap64 ((k : Int) + 1) = (k : Int) + 1 := by unfold wrap64; omega
    by_cases hlk : k < m + 1
    · have kl : (k : Int) ≤ (m : Int) := by omega
      go_wp2_with fail
      refine KC.mono ?_
      rintro e w1 ⟨rfl, hb⟩
      have W1 := Aside0.mk (W0.out.trans (hb.mono W0.out.size))
      clear hb KC W0
      go_wp2_with fail
      refine (r7one_calls A c l x b w1 (HL.out.below W1.out)).mono ?_
      rintro e w2 ⟨rfl, hb⟩
      have W2 := Aside0.mk (W1.out.trans (hb.mono W1.out.size))
      clear hb W1
      have hk1 : m + 1 - k = (m - k) + 1 := by omega
      have hch := HCH.out
      rw [hk1] at hch
      have ex : ((x.toNat : Nat) : Int) = x := by omega
      obtain ⟨t, ht⟩ : ∃ t, chain l ((m - k) + 1) x = x :: t := ⟨_, rfl⟩
      cases hone : (oneM l l x b).1 with
      | true =>
        have RT : Aside0 (rowsM l a b = true) := ⟨by
          unfold rowsM
          rw [← HM.out, ← hch, ht, EB.out, List.any_append, List.any_cons]
          rw [ex, hone]
          simp only [Bool.true_or, Bool.or_true]⟩
        clear hch ht
        go_wp2_with fail
        go_ret
        exact ⟨by rw [RT.out]; rfl, W2.out⟩
      | false =>
        have KA := r7above_calls A c l x w2 (HL.out.below W2.out) x0 (by rw [← HM.out]; exact x1)
        have HO := Aside0.mk hone
        clear hone
        rcases hz : (tyAt l x).f1 with _ | ⟨y, t'⟩
        · rw [hz] at KA
          rw [chain_end _ hz] at hch
          have RT : Aside0 (rowsM l a b = false) := ⟨by
            unfold rowsM
            rw [← HM.out, ← hch, EB.out, List.any_append]
            simp only [List.any_cons, List.any_nil, ex, HO.out, Bool.or_false]
            rw [List.any_eq_false]
            intro z hz'
            rw [HP.out z hz']
            simp⟩
          clear hch ht hz
          dsimp only [aboveV] at KA
          go_wp2_with fail
          refine KA.mono ?_
          rintro e w3 ⟨rfl, hb⟩
          have W3 := Aside0.mk (W2.out.trans (hb.mono W2.out.size))
          clear hb
          go_wp2_with fail
          go_ret
          exact ⟨by rw [RT.out]; rfl, W3.out⟩
        · rw [hz] at KA
          rw [chain_on _ hz] at hch
          have HCE := Aside0.mk hch
          have HY := Aside0.mk (tyAt_supers HC.out x0 (by rw [← HM.out]; exact x1) y (by rw [hz]; simp))
          rw [← HM.out] at HY
          clear hch ht hz
          dsimp only [aboveV] at KA
          go_wp2_with fail
          refine KA.mono ?_
          rintro e w3 ⟨rfl, hb⟩
          have W3 := Aside0.mk (W2.out.trans (hb.mono W2.out.size))
          clear hb
          go_wp2_with fail
          go_roundw
          case rel => exact ⟨k + 1, y, p ++ [x], by go_num, by omega, rfl, HY.out, by have e_ : m + 1 - (k + 1) = m - k := (by omega); rw [e_, List.append_assoc]; exact HCE.out, fun z hz => (List.mem_append.1 hz).elim (fun h => HP.out z h) (fun h => by rw [List.mem_singleton.1 h, ex]; exact HO.out), W3.out⟩
          case measure => simp [intOf]; omega
    · obtain rfl : k = m + 1 := by omega
      have hch := HCH.out
      rw [Nat.sub_self] at hch
      have RT : Aside0 (rowsM l a b = false) := ⟨by
        unfold rowsM
        rw [← HM.out, ← hch, EB.out]
        simp only [chain, List.append_nil]
        rw [List.any_eq_false]
        intro z hz'
        rw [HP.out z hz']
        simp⟩
      clear hch hk hlk
      have kl : ¬ (((m + 1 : Nat) : Int) ≤ (m : Int)) := by omega
      go_wp2_with fail
      refine KC.mono ?_
      rintro e w1 ⟨rfl, hb⟩
      have W1 := Aside0.mk (W0.out.trans (hb.mono W0.out.size))
      clear hb KC W0
      go_wp2_with fail
      go_ret
      exact ⟨by rw [RT.out]; rfl, W1.out⟩
theorem heapM_eq {l : List S62} {a b : Int} (ha : isM l a = true) (hb : isM l b = true) : heapM l a b = (if a < 0 then if b < 0 then absM a b else decide (a = -10) && decide (kindOf l b ≠ -1) || decide (a = -2) && decide (kindOf l b = -1) else if b < 0 then absM (kindOf l a) b else rowsM l a b) := by
  unfold heapM
  rw [if_pos (by rw [ha, hb]; rfl)]
  rfl
set_option maxRecDepth 100000 in
set_option maxHeartbeats 8000000 in
theorem r7heap_calls (A : Option Addr) (c : Nat) (l : List S62) (a b : Int) (w : World) (hl : LA w A c l) (hc : Clo l) (ha : isM l a = true) (hb : isM l b = true) :
    Calls Tryd.prog 105 #[.slice A l.length c, .int .i64 a, .int .i64 b] w fun e w' => e = .returned (.bool (heapM l a b)) ∧ Below w.heap.size w w' := by
  obtain ⟨ha0, ha1⟩ := isM_bounds ha
  obtain ⟨hb0, hb1⟩ := isM_bounds hb
  have EM := Aside0.mk (heapM_eq ha hb)
  clear ha hb
  by_cases na : a < 0
  · by_cases nb : b < 0
    · have K := r7abstract_calls a b w ha0 na hb0 nb
      rw [EM.out, if_pos na, if_pos nb]
      clear hl hc
      go_enter Tryd.func105, Tryd.ntmps105
      go_wp2_with fail
      refine K.mono ?_
      rintro e w1 ⟨rfl, hb⟩
      have B1 := Aside0.mk hb
      clear hb K
      go_wp2_with fail
      go_ret
      exact ⟨rfl, B1.out⟩
    · have K := r7kind_calls A c l b w hl (by omega) hb1
      have hk := kindM_in (tyAt l b).f2.f0
      obtain ⟨kb, hkb⟩ : ∃ kb, kb = kindOf l b := ⟨_, rfl⟩
      rw [EM.out, if_pos na, if_neg nb]
      rw [← hkb] at K ⊢
      replace hk : kb = -1 ∨ kb = -8 ∨ kb = -9 := by rw [hkb]; exact hk
      clear hl hc hkb
      by_cases a10 : a = -10
      · subst a10
        rcases hk with rfl | rfl | rfl
        all_goals
          go_enter Tryd.func105, Tryd.ntmps105
          go_wp2_with fail
          refine K.mono ?_
          rintro e w1 ⟨rfl, hb⟩
          have B1 := Aside0.mk hb
          clear hb K
          go_wp2_with fail
          go_ret
          exact ⟨rfl, B1.out⟩
      · have e10 : (a == -10) = false := by simp [a10]
        by_cases a2 : a = -2
        · subst a2
          rcases hk with rfl | rfl | rfl
          all_goals
            go_enter Tryd.func105, Tryd.ntmps105
            go_wp2_with fail
            refine K.mono ?_
            rintro e w1 ⟨rfl, hb⟩
            have B1 := Aside0.mk hb
            clear hb K
            go_wp2_with fail
            go_ret
            exact ⟨rfl, B1.out⟩
        · have e2 : (a == -2) = false := by simp [a2]
          have EF : (decide (a = -10) && decide (kb ≠ -1) || decide (a = -2) && decide (kb = -1)) = false := by simp [a10, a2]
          rw [EF]
          clear K
          go_enter Tryd.func105, Tryd.ntmps105
          go_wp2_with fail
          go_ret
          exact ⟨rfl, Below.refl _ _⟩
  · by_cases nb : b < 0
    · have K := r7kind_calls A c l a w hl (by omega) ha1
      have hk := kindM_in (tyAt l a).f2.f0
      have hk' : -12 ≤ kindOf l a ∧ kindOf l a < 0 := by
        have hk2 : kindOf l a = -1 ∨ kindOf l a = -8 ∨ kindOf l a = -9 := hk
        omega
      have HK := Aside0.mk hk'
      rw [EM.out, if_neg na, if_pos nb]
      clear hl hc hk hk'
      go_enter Tryd.func105, Tryd.ntmps105
      go_wp2_with fail
      refine K.mono ?_
      rintro e w1 ⟨rfl, hb⟩
      have B1 := Aside0.mk hb
      clear hb K
      go_wp2_with fail
      refine (r7abstract_calls (kindOf l a) b w1 HK.out.1 HK.out.2 hb0 nb).mono ?_
      rintro e w2 ⟨rfl, hb⟩
      have B2 := Aside0.mk (B1.out.trans (hb.mono B1.out.size))
      clear hb
      go_wp2_with fail
      go_ret
      exact ⟨rfl, B2.out⟩
    · have K := r7rows_calls A c l a b w hl hc (by omega) ha1 (by omega)
      rw [EM.out, if_neg na, if_neg nb]
      clear hl hc
      go_enter Tryd.func105, Tryd.ntmps105
      go_wp2_with fail
      refine K.mono ?_
      rintro e w1 ⟨rfl, hb⟩
      have B1 := Aside0.mk hb
      clear hb K
      go_wp2_with fail
      go_ret
      exact ⟨rfl, B1.out⟩
set_option maxRecDepth 100000 in
theorem r7Heap_calls (A : Option Addr) (c : Nat) (l : List S62) (a b : Int) (w : World) (hl : LA w A c l) (hc : Clo l) :
    Calls Tryd.prog 99 #[.slice A l.length c, .int .i64 a, .int .i64 b] w fun e w' => e = .returned (.bool (heapM l a b)) ∧ Below w.heap.size w w' := by
  have HL := Aside0.mk hl
  have HC := Aside0.mk hc
  have K := r7closed_yes A c l w hl hc
  clear hl hc
  cases ha : isM l a with
  | false =>
    have EM : Aside0 (heapM l a b = false) := ⟨heapM_no (fun h => by rw [ha] at h; cases h.1)⟩
    go_enter Tryd.func99, Tryd.ntmps99
    go_wp2_with fail
    refine K.mono ?_
    rintro e w1 ⟨rfl, hb⟩
    have B1 := Aside0.mk hb
    clear hb K
    go_wp2_with fail
    have K2 := r7is_calls A c l a w1 (HL.out.below B1.out)
    rw [ha] at K2
    refine K2.mono ?_
    rintro e w2 ⟨rfl, hb⟩
    have B2 := Aside0.mk (B1.out.trans (hb.mono B1.out.size))
    clear hb K2
    go_wp2_with fail
    go_ret
    exact ⟨by rw [EM.out]; rfl, B2.out⟩
  | true =>
    go_enter Tryd.func99, Tryd.ntmps99
    go_wp2_with fail
    refine K.mono ?_
    rintro e w1 ⟨rfl, hb⟩
    have B1 := Aside0.mk hb
    clear hb K
    go_wp2_with fail
    have K2 := r7is_calls A c l a w1 (HL.out.below B1.out)
    rw [ha] at K2
    refine K2.mono ?_
    rintro e w2 ⟨rfl, hb⟩
    have B2 := Aside0.mk (B1.out.trans (hb.mono B1.out.size))
    clear hb K2
    go_wp2_with fail
    have K3 := r7is_calls A c l b w2 (HL.out.below B2.out)
    cases hb' : isM l b with
    | false =>
      have EM : Aside0 (heapM l a b = false) := ⟨heapM_no (fun h => by rw [hb'] at h; cases h.2)⟩
      rw [hb'] at K3
      refine K3.mono ?_
      rintro e w3 ⟨rfl, hb⟩
      have B3 := Aside0.mk (B2.out.trans (hb.mono B2.out.size))
      clear hb K3
      go_wp2_with fail
      go_ret
      exact ⟨by rw [EM.out]; rfl, B3.out⟩
    | true =>
      rw [hb'] at K3
      refine K3.mono ?_
      rintro e w3 ⟨rfl, hb⟩
      have B3 := Aside0.mk (B2.out.trans (hb.mono B2.out.size))
      clear hb K3
      go_wp2_with fail
      refine (r7heap_calls A c l a b w3 (HL.out.below B3.out) HC.out ha hb').mono ?_
      rintro e w4 ⟨rfl, hb⟩
      have B4 := Aside0.mk (B3.out.trans (hb.mono B3.out.size))
      clear hb
      go_wp2_with fail
      go_ret
      exact ⟨rfl, B4.out⟩
end Go.Proofs.YtfgglniigeagdaaDoor.Cn
