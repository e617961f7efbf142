/- Parts of the proof of subLeads_holds (16 of 18): what it says and shows stands at its declarations. -/
import Derived.Test.YtfgglniigeagdaaDoorZSl15
import Derived.RangeFuncFrom
import Derived.RangeFuncNested
import Derived.RangeFuncCalls
import Derived.RangeFuncBound
import Derived.TacticsInMore
import Derived.OwnWalkIn
import Derived.LoopIn
import Derived.Shelf.RegionOpen
namespace Go.Proofs.YtfgglniigeagdaaDoor.Cn
set_option linter.unusedSimpArgs false
set_option linter.unusedVariables false
open Go.RowKit Go.Maps Go.Proofs.YtfgglniigeagdaaDoorW.PrintWords Go.Proofs.YtfgglniigeagdaaDoorW.PrintLast Go.Proofs.YtfgglniigeagdaaDoorW.PrintMore Go.Proofs.YtfgglniigeagdaaDoor.QD
theorem blk_new' (w : World) (o : Obj) : (w.alloc o).heap[w.heap.size]? = some o := by show (w.heap.push o)[w.heap.size]? = some o; simp
theorem blk_lt' {w : World} {k : Nat} {o : Obj} (h : w.heap[k]? = some o) : k < w.heap.size := (Array.getElem?_eq_some_iff.1 h).1
/-- What the loop's own steps, and the iterator's, leave as it is. -/
structure Stays (nb B : Nat) (I : World → Prop) : Prop where
  put : ∀ (W : World) (l : Nat) (o : Obj), B ≤ l → l < W.heap.size → I W → I (W.putObj l o)
  set : ∀ (W : World) (v : Value), I W → I (W.setCell ⟨nb, 0, none⟩ v)
  drew : ∀ W : World, I W → I W.drew
  alloc : ∀ (W : World) (o : Obj), I W → I (W.alloc o)
/-- What a round leaves as it is, if it goes on. -/
structure RKeep (nb B : Nat) (W W' : World) : Prop where
  size : W.heap.size ≤ W'.heap.size
  own : W'.heap[nb]? = W.heap[nb]?
  new : ∀ k, B ≤ k → k < W.heap.size → W'.heap[k]? = W.heap[k]?
/-- How a round's body may be left. -/
def cellPost (nb B : Nat) (I : List Int → World → Prop) (Ix : Code → List Int → World → Prop) (p : List Int) (W : World) : Exit → Act → World → Prop
  | .normal, _, W' => RKeep nb B W W' ∧ I p W'
  | .ret, _, W' => (W.heap.size ≤ W'.heap.size ∧ ∀ k, B ≤ k → k < W.heap.size → W'.heap[k]? = W.heap[k]?) ∧ Ix .ret p W'
  | _, _, _ => False
/-- The iterator's contract. -/
def SeqCell (n : Nat) (P : Program) (gf : Nat) (lb : Array Value) (nb : Nat) (X : Obj) (Good : World → Prop) (Ok : Int → Prop) (S Sp : List Int → Prop) : Prop :=
  ∀ (l : Nat) (J Jx : List Int → World → Prop) (W : World), (∀ p W v, J p W → J p (W.setCell ⟨nb, 0, none⟩ v)) → (∀ p W, J p W → J p W.drew) → (∀ p W, J p W → Good W) →
    (∀ p (x : Int) W1, J p W1 → Ok x → YieldAt Fence.wide (n - 1) P l #[.int .i64 x] W1 fun e W' => (e = .returned (.bool true) ∧ J (p ++ [x]) W' ∧ W'.heap[nb]? = W1.heap[nb]?) ∨ (e = .returned (.bool false) ∧ Jx (p ++ [x]) W')) →
    J [] W → W.heap[nb]? = some X →
    CallsIn Fence.wide n P gf (#[.func (.yield l) #[] #[]] ++ lb) W fun e W' => (∃ v, e = .returned v) ∧ ((∃ p, S p ∧ J p W') ∨ (∃ p, Sp p ∧ Jx p W'))
theorem range_cell {n : Nat} {P : Program} {g : Operand} {ps : Array Tmp} {assign body : Code} {Q : Exit → Act → World → Prop} {a : Act} {w : World} {gf : Nat} {lb : Array Value} {nb : Nat} {X : Obj} {Good : World → Prop} {Ok : Int → Prop} {S Sp : List Int → Prop}
    (hg : a.eval g = .func (.func gf) #[] lb) (eg : ∀ args w, (callFunc gf args).run P w = .ok (.enter gf args) w) (hps : ps.size = 1)
    (hseq : SeqCell (n - 1) P gf lb nb X Good Ok S Sp) (hnb : nb < w.heap.size) (hX : w.heap[nb]? = some X)
    (I : List Int → World → Prop) (Ix : Code → List Int → World → Prop) (hI : ∀ p, Stays nb w.heap.size (I p)) (hG : ∀ p W, I p W → Good W)
    (hIx : ∀ c p W l o, w.heap.size ≤ l → l < W.heap.size → Ix c p W → Ix c p (W.putObj l o)) (h0 : I [] w) (a₁ : Int → Act)
    (hassign : ∀ (l : Nat) (x : Int) (W : World) (K : Act → World → Prop), K (a₁ x) W →
      assign.wpIn (Fence.wide.inRound l) (n - 1 - 1) P (Exit.then K (fun _ _ _ => False)) { tmps := (ps.zip #[.int .i64 x]).foldl (fun t (p, v) => t.setIfInBounds p v) a.tmps, defers := [] } W)
    (hbody : ∀ (l : Nat) (p : List Int) (x : Int) (W : World), I p W → Ok x → body.wpIn (Fence.wide.inRound l) (n - 1 - 1) P (cellPost nb w.heap.size I Ix (p ++ [x]) W) (a₁ x) W)
    (hdone : ∀ (D : Nat) (p : List Int) (W : World), w.heap.size ≤ D → S p → I p W → W.heap[D]? = some (.deferred (some [])) → Q .normal { a with defers := { target := .collected D, args := #[] } :: a.defers } W)
    (hstop : ∀ (D : Nat) (c : Code) (p : List Int) (W : World), w.heap.size ≤ D → Sp p → Ix c p W → W.heap[D]? = some (.deferred (some [])) → c.wpIn Fence.wide n P Q { a with defers := { target := .collected D, args := #[] } :: a.defers } W) :
    (Code.rangeFunc g ps assign body).wpIn Fence.wide n P Q a w := by
  refine wpIn_rangeFunc fun fn _ => ?_
  let rec0 : LoopState → Option Code → Obj := fun st pe => .loop { state := st, pending := pe, fn, tmps := a.tmps, params := ps, assign, body, defers := w.heap.size }
  let D := w.heap.size
  let R := w.heap.size + 1
  let w1 := (w.alloc (.deferred (some []))).alloc (rec0 .ready none)
  have r1 : w1.heap[R]? = some (rec0 .ready none) := by
    have := blk_new' (w.alloc (.deferred (some []))) (rec0 .ready none)
    rwa [World.size_alloc] at this
  have d1 : w1.heap[D]? = some (.deferred (some [])) := by
    have h := blk_new' w (.deferred (some []))
    exact (Below.heap_alloc _ _ _ (by simp [D])).trans h
  have i1 : I [] w1 := (hI []).alloc _ _ ((hI []).alloc _ _ h0)
  have x1 : w1.heap[nb]? = some X := (Below.heap_alloc _ _ _ (by simp; omega)).trans ((Below.heap_alloc _ _ _ hnb).trans hX)
  refine ⟨R, [{ target := .collected D, args := #[] }], w1, { target := .fn (.func gf) lb, args := #[.func (.yield R) #[] #[]] }, w1, gf, #[.func (.yield R) #[] #[]] ++ lb, w1, run_enterLoop_outer _ _ _ _ _, ?_, ?_, ?_, (fun h => (by cases h)), ?_⟩
  · simp only [resolve, hg]
    simp [go_sem]
  · intro f' _
    trivial
  · simp [invoke, go_sem, eg]
  · let J : List Int → World → Prop := fun p W => I p W ∧ W.heap[R]? = some (rec0 .ready none) ∧ W.heap[D]? = some (.deferred (some []))
    let Jx : List Int → World → Prop := fun p W => ∃ c, Ix c p W ∧ W.heap[R]? = some (rec0 .done (some c)) ∧ W.heap[D]? = some (.deferred (some []))
    have hnR : R ≠ nb := by show w.heap.size + 1 ≠ nb; omega
    have hnD : D ≠ nb := by show w.heap.size ≠ nb; omega
    have hDR : D ≠ R := by show w.heap.size ≠ w.heap.size + 1; omega
    refine (hseq R J Jx w1 (fun p W v hj => ⟨(hI p).set _ _ hj.1, (Below.heap_setCell W ⟨nb, 0, none⟩ v R hnR).trans hj.2.1, (Below.heap_setCell W ⟨nb, 0, none⟩ v D hnD).trans hj.2.2⟩) (fun p W hj => ⟨(hI p).drew _ hj.1, hj.2.1, hj.2.2⟩) (fun p W hj => hG p W hj.1) ?_ ⟨i1, r1, d1⟩ x1).mono ?_
    · -- a round
      rintro p x W ⟨hi, hr, hd⟩ hok
      have hlt : R < W.heap.size := blk_lt' hr
      have hltD : D < W.heap.size := blk_lt' hd
      refine ⟨fn, _, assign, body, run_yield hr (by simp [hps]), roundIn_of_wpIn trivial (hassign R x W _ ⟨_, run_beginRound hr rfl, ?_⟩)⟩
      refine wpIn_mono (hbody R p x (W.putObj R (rec0 .busy none)) ((hI p).put _ _ _ (by show w.heap.size ≤ w.heap.size + 1; omega) hlt hi) hok) ?_
      have hrb : (W.putObj R (rec0 .busy none)).heap[R]? = some (rec0 .busy none) := World.putObj_heap_same hlt
      have hdb : (W.putObj R (rec0 .busy none)).heap[D]? = some (.deferred (some [])) := (World.putObj_heap_other hDR).trans hd
      have hnbk : (W.putObj R (rec0 .busy none)).heap[nb]? = W.heap[nb]? := World.putObj_heap_other (Ne.symm hnR)
      intro e a3 W3 hp
      cases e with
      | normal =>
        obtain ⟨hk, hi3⟩ := hp
        have hr3 : W3.heap[R]? = some (rec0 .busy none) := (hk.new R (by show w.heap.size ≤ w.heap.size + 1; omega) (by rw [World.putObj_size]; exact hlt)).trans hrb
        have hd3 : W3.heap[D]? = some (.deferred (some [])) := (hk.new D (Nat.le_refl _) (by rw [World.putObj_size]; exact hltD)).trans hdb
        refine ⟨_, _, run_endRound none hr3, .inl ⟨rfl, ⟨(hI _).put _ _ _ (by show w.heap.size ≤ w.heap.size + 1; omega) (blk_lt' hr3) hi3, World.putObj_heap_same (blk_lt' hr3), (World.putObj_heap_other hDR).trans hd3⟩, ?_⟩⟩
        exact (World.putObj_heap_other (Ne.symm hnR)).trans (hk.own.trans hnbk)
      | ret =>
        obtain ⟨⟨hsz, hk⟩, hi3⟩ := hp
        have hr3 : W3.heap[R]? = some (rec0 .busy none) := (hk R (by show w.heap.size ≤ w.heap.size + 1; omega) (by rw [World.putObj_size]; exact hlt)).trans hrb
        have hd3 : W3.heap[D]? = some (.deferred (some [])) := (hk D (Nat.le_refl _) (by rw [World.putObj_size]; exact hltD)).trans hdb
        exact ⟨_, _, run_endRound (some .ret) hr3, .inr ⟨rfl, .ret, hIx _ _ _ _ _ (by show w.heap.size ≤ w.heap.size + 1; omega) (blk_lt' hr3) hi3, World.putObj_heap_same (blk_lt' hr3), (World.putObj_heap_other hDR).trans hd3⟩⟩
      | exit id => exact hp.elim
      | goto t => exact hp.elim
      | panic ch => exact hp.elim
      | outgrown => exact hp.elim
    · -- behind the iterator
      rintro e W2 ⟨⟨v, rfl⟩, (⟨p, hS, hi, hr, hd⟩ | ⟨p, hS, c, hi, hr, hd⟩)⟩
      · exact ⟨none, _, run_endLoop hr (by intro e; cases e), hdone D p _ (Nat.le_refl _) hS ((hI p).put _ _ _ (by show w.heap.size ≤ w.heap.size + 1; omega) (blk_lt' hr) hi) ((World.putObj_heap_other hDR).trans hd)⟩
      · exact ⟨some c, _, run_endLoop hr (by intro e; cases e), hstop D c p _ (Nat.le_refl _) hS (hIx _ _ _ _ _ (by show w.heap.size ≤ w.heap.size + 1; omega) (blk_lt' hr) hi) ((World.putObj_heap_other hDR).trans hd)⟩
def noDefer (ops : Array Oper) : Bool := ops.toList.all fun o => match o.op with | .defer _ => false | _ => true
theorem noDefer_spec {ops : Array Oper} (h : noDefer ops = true) {i : Nat} {o : Oper} (ho : ops[i]? = some o) : ∀ c, o.op ≠ .defer c := by
  intro c hc
  have hm : o ∈ ops.toList := by
    rw [← Array.getElem?_toList] at ho
    exact List.mem_of_getElem? ho
  have := List.all_eq_true.1 h o hm
  rw [hc] at this
  cases this
theorem upon_round {P : Program} {o : Oper} {a : Act} {next next' : Act → World → Prop} {Q : Exit → Act → World → Prop} {r : Result Next} {l n : Nat} (hn : ∀ a w, next a w → next' a w) (h : Oper.upon P o a next Q r) : Oper.uponIn (Fence.wide.inRound l) n P o a next' Q r := by
  cases r with
  | ok v w' =>
    cases v with
    | value v => exact hn _ _ h
    | skip => exact hn _ _ h
    | defer d => exact hn _ _ h
    | enter f args =>
      refine ⟨(fun h0 => (by cases h0)), CallsIn.inRound l (callsIn_wide.2 (Calls.mono h fun e w hh => ?_))⟩
      cases e with
      | returned v => exact hn _ _ hh
      | panicked c => exact hh
      | outgrown => exact hh
    | row row args =>
      refine ⟨(fun h0 => (by cases h0)), fun c cs _ => ?_⟩
      obtain ⟨v, w2, hr, hs⟩ := h c cs
      exact ⟨v, w2, hn _ _ hr, stepsIn_wide.2 hs⟩
    | _ => exact h.elim
  | halt s w' =>
    cases s <;> first | exact h | exact h.elim
theorem wpAnyIn_round {P : Program} {md : Region.Mode} {ops : Array Oper} {Q : Exit → Act → World → Prop} {l n : Nat} (hno : ¬ LetsOut Q) (hops : noDefer ops = true) :
    ∀ (fuel : Nat) (listed : Array Bool) (a : Act) (w : World), wpAny P md ops Q fuel listed a w → wpAnyIn (Fence.wide.inRound l) n P md ops Q fuel listed a w
  | 0, _, _, _, h => h
  | fuel + 1, listed, a, w, h => ⟨h.1, fun i hi => by
      have h2 := h.2 i hi
      unfold wpOp at h2
      unfold wpOpIn
      cases ho : ops[i]? with
      | none => rw [ho] at h2; exact wpAnyIn_round hno hops fuel _ _ _ h2
      | some o =>
        rw [ho] at h2
        dsimp only at h2 ⊢
        by_cases hw : Region.wanted o (yielded ops a.tmps) = true
        · rw [if_pos hw] at h2 ⊢
          rcases h2 with h2 | h2
          · refine ⟨fun _ _ => trivial, ?_⟩
            rw [Oper.semAt_eq _ _ _ (noDefer_spec hops ho)]
            exact upon_round (fun a' w' h' => wpAnyIn_round hno hops fuel _ a' w' h') h2
          · exact absurd h2.2 hno
        · rw [if_neg hw] at h2 ⊢
          exact ⟨fun _ _ => trivial, wpAnyIn_round hno hops fuel _ _ _ h2⟩⟩
theorem startR_ {P : Program} {ops : Array Oper} {Q : Exit → Act → World → Prop} {S : World → Prop} {ds : List Nat} {id n rl m : Nat} {a : Act} {w : World} (hno : ¬ LetsOut Q) (hops : noDefer ops = true) (l : Array Bool) (hm : P.follows .mixedOrders = true) (hn : ops.size = n) (hl : Array.replicate n false = l) (hS : S w.drew)
    (h : S w.drew → wpAnyLast P .any ops Q S ds n l a w.drew) : (Code.region id ops true).wpIn (Fence.wide.inRound rl) m P Q a w := by
  subst hn
  subst hl
  exact wpIn_region_any hm (wpAnyIn_round hno hops _ _ _ _ (wpAny_of_last _ _ _ _ (h hS)))
end Go.Proofs.YtfgglniigeagdaaDoor.Cn
namespace Go.Proofs.YtfgglniigeagdaaDoor.Cn
set_option linter.unusedSimpArgs false
set_option linter.unusedVariables false
open Go.RowKit Go.Maps Go.Proofs.YtfgglniigeagdaaDoorW.PrintWords Go.Proofs.YtfgglniigeagdaaDoorW.PrintLast Go.Proofs.YtfgglniigeagdaaDoorW.PrintMore Go.Proofs.YtfgglniigeagdaaDoor.QD
/-- A type and what it declares above it, at most k of them. -/
def chain (l : List S62) : Nat → Int → List Int
  | 0, _ => []
  | k + 1, x => x :: (match (tyAt l x).f1 with | [] => [] | y :: _ => chain l k y)
theorem chain_end {l : List S62} {x : Int} (k : Nat) (h : (tyAt l x).f1 = []) : chain l (k + 1) x = [x] := by simp [chain, h]
theorem chain_on {l : List S62} {x y : Int} {t : List Int} (k : Nat) (h : (tyAt l x).f1 = y :: t) : chain l (k + 1) x = x :: chain l k y := by simp [chain, h]
/-- In closed groups a type declares types of the list above it. -/
theorem tyAt_supers {l : List S62} (hc : Clo l) {x : Int} (h0 : 0 ≤ x) (h1 : x < ((flat l).length : Int)) : ∀ y ∈ (tyAt l x).f1, 0 ≤ y ∧ y < ((flat l).length : Int) := by
  obtain ⟨j, r, p, hj, hr, he, hp⟩ := place_of l l.length x.toNat (Nat.le_refl _) (by rw [List.take_length, ← flat_length]; omega)
  have h2 : (flat l)[x.toNat]? = r.f0[p]? := by rw [he]; exact flat_get hr hp
  have h3 : tyAt l x = r.f0[p] := by
    unfold tyAt rd_T53
    rw [List.getD_eq_getElem?_getD, h2, List.getElem?_eq_getElem hp]
    rfl
  have h4 := (typeOk_iff _ _).1 (hc j r hr (r.f0[p]) (List.getElem_mem hp))
  intro y hy
  rw [h3] at hy
  refine ⟨h4.1 y hy, ?_⟩
  have h5 := (h4.2.q1 y hy).2
  have h6 := tcount_mono l (j + 1) l.length (by omega)
  rw [List.take_length] at h6
  rw [flat_length]
  omega
set_option maxRecDepth 100000 in
set_option maxHeartbeats 8000000 in
theorem above_seq (l : List S62) (hc : Clo l) (cb pb nb : Nat) (x0 : Int) (h0 : 0 ≤ x0) (h1 : x0 < ((flat l).length : Int)) (hll : (flat l).length ≤ 1048576) (n : Nat) :
    SeqCell n Tryd.prog 75 #[.pointer (some ⟨pb, 0, none⟩), .pointer (some ⟨nb, 0, none⟩)] nb (.cells #[.int .i64 x0] 3 (0, 0)) (fun W => W.heap[pb]? = some (.cells #[.pointer (some ⟨cb, 0, none⟩)] 99 (0, 0)) ∧ Ctx l cb W) (fun x => 0 ≤ x ∧ x < ((flat l).length : Int))
      (fun p => p = chain l ((flat l).length + 1) x0) (fun p => ∃ t, p ++ t = chain l ((flat l).length + 1) x0) := by
  intro rl J Jx W hset hdrew hgood hY hJ hX
  refine callsIn_of_wp Tryd.func75 rfl trivial ?_ rfl
  simp only [Tryd.ntmps75, List.size_toArray, List.length_cons, List.length_nil, Nat.reduceAdd, Nat.reduceSub, Array.replicate_succ, Array.replicate_zero, List.push_toArray, List.append_toArray, List.nil_append, List.cons_append, Array.append_empty]
  have HSET := Aside0.mk hset
  have HDREW := Aside0.mk hdrew
  have HGOOD := Aside0.mk hgood
  have HY := Aside0.mk hY
  have HC := Aside0.mk hc
  have HJ := Aside0.mk hJ
  have HX := Aside0.mk hX
  obtain ⟨gp, gc⟩ := hgood _ _ hJ
  obtain ⟨L, Ai, ci, Aa, ca, I, e1, e2, e3, e4, e5, e6⟩ := gc.ex
  have x1 : W.cell? ⟨pb, 0, none⟩ = some (.pointer (some ⟨cb, 0, none⟩)) := (blk_cell gp 0).trans rfl
  have x2 : W.cell? ⟨cb, 2, none⟩ = some (.slice Aa (flat l).length ca) := (blk_cell e1 2).trans rfl
  have hwl : wrap64 (((flat l).length : Int) + 1) = ((flat l).length : Int) + 1 := by unfold wrap64; omega
  clear hset hdrew hgood hY hJ hX gp gc e1 e2 e3 e4 e5 e6 hc
  gi_wp2
  obtain ⟨m, hm⟩ : ∃ m, m = (flat l).length := ⟨_, rfl⟩
  have HM := Aside0.mk hm
  gi_loopw [11] (fun i W => ∃ (k : Nat) (x : Int) (p : List Int), i = .int .i64 k ∧ k ≤ m + 1 ∧ (0 ≤ x ∧ x < (m : Int)) ∧ J p W ∧ W.heap[nb]? = some (.cells #[.int .i64 x] 3 (0, 0)) ∧ p ++ chain l (m + 1 - k) x = chain l (m + 1) x0) (fun i _ => m + 1 - (intOf i).toNat)
  case atStart => exact ⟨0, x0, [], rfl, Nat.zero_le _, ⟨h0, by omega⟩, HJ.out, HX.out, rfl⟩
  case round =>
    rw [← hm]
    have hm' : m ≤ 1048576 := by omega
    clear HJ HX x1 x2 hm
    obtain ⟨k, x, p, rfl, hk, ⟨hx0, hx1⟩, hJ, hX, hch⟩ := hrel
    have HJ := Aside0.mk hJ
    have HX := Aside0.mk hX
    have HCH := Aside0.mk hch
    have hnx : wr.cell? ⟨nb, 0, none⟩ = some (.int .i64 x) := (blk_cell hX 0).trans rfl
    clear hch hX
    by_cases hlk : k < m + 1
    · have kl : (k : Int) < (m : Int) + 1 := by omega
      have hwk : wrap64 ((k : Int) + 1) = (k : Int) + 1 := by unfold wrap64; omega
      obtain ⟨fn, tmps, assign, body, hy, hR⟩ := HY.out p x wr hJ ⟨hx0, by rw [← HM.out]; exact hx1⟩
      clear hJ
      gi_wp2
      refine ⟨fun h => (by cases h), hR.mono ?_⟩
      rintro e w3 (⟨rfl, hJ3, hk3⟩ | ⟨rfl, hJx3⟩)
      · obtain ⟨gp, gc⟩ := HGOOD.out _ _ hJ3
        obtain ⟨L, Ai, ci, Aa, ca, I, e1, e2, e3, e4, e5, e6⟩ := gc.ex
        have X3 := Aside0.mk (hk3.trans HX.out)
        have J3 := Aside0.mk hJ3
        have P3 := Aside0.mk gp
        have C3 := Aside0.mk e1
        obtain ⟨ae, A1', c1, A3, c3, A4, c4, A5, c5, ea, d0, d1, d2, d3, d4, d5, m1, r1, m3, r3, m4, r4, m5, r5⟩ := at_T53 e5 x hx0 (by rw [← HM.out]; exact hx1)
        subst ea
        have D1 := Aside0.mk d1
        have S1 := Aside0.mk r1
        have T1 : Aside0 (rd_T53 (flat l) x = tyAt l x) := ⟨rfl⟩
        rw [T1.out] at D1 S1
        have SUP := Aside0.mk (tyAt_supers HC.out hx0 (by rw [← HM.out]; exact hx1))
        clear hJ3 hk3 gp gc e1 e2 e3 e4 e5 e6 d0 d1 d2 d3 d4 d5 m1 r1 m3 r3 m4 r4 m5 r5 hy hR hnx T1
        rw [← HM.out] at C3
        obtain ⟨ss, hss⟩ : ∃ ss, ss = (tyAt l x).f1 := ⟨_, rfl⟩
        rw [← hss] at D1 S1 SUP
        have HSS := Aside0.mk hss
        clear hss
        have hxm : x < (m : Int) := hx1
        gi_wp2
        refine wpIn_wide.2 ?_
        refine start_ (n := 9) (S := fun w' => w'.cell? ⟨pb, 0, none⟩ = some (.pointer (some ⟨cb, 0, none⟩)) ∧ w'.cell? ⟨cb, 2, none⟩ = some (.slice (some ae) m ca) ∧ w'.cell? ⟨nb, 0, none⟩ = some (.int .i64 x) ∧ w'.cell? ⟨(ae.add (x.toNat * 6)).block, (ae.add (x.toNat * 6)).off + 1, none⟩ = some (.slice A1' ss.length c1)) (ds := []) #[false, false, false, false, false, false, false, false, false] (by kernel_rfl) rfl rfl ⟨(blk_cell P3.out 0).trans rfl, (blk_cell C3.out 2).trans rfl, (blk_cell X3.out 0).trans rfl, D1.out⟩ (fun hHeld => ?_)
        refine take_ (i := 0) (N := some 17) (v := ?_) (a' := ?_) #[true, false, false, false, false, false, false, false, false] rfl rfl (by kernel_rfl) (fun _ _ _ h => h) (Or.inl ⟨by rfl, ?_⟩) hHeld ?_ ?_
        rotate_left
        · rintro w' ⟨s0, s1, s2, s3⟩
          go_simp
          with_reducible rfl
        rotate_left
        · simp only [Act.put, List.setIfInBounds_toArray, List.set_cons_zero, List.set_cons_succ, i64_w, i32_w]
          rfl
        refine pure_ (i := 1) (N := some 18) (v := ?_) (a' := ?_) #[true, true, false, false, false, false, false, false, false] rfl rfl (by kernel_rfl) (fun _ _ _ h => h) (Or.inl ⟨by rfl, ?_⟩) ?_ ?_
        rotate_left
        · intro w'
          go_simp
          with_reducible rfl
        rotate_left
        · simp only [Act.put, List.setIfInBounds_toArray, List.set_cons_zero, List.set_cons_succ, i64_w, i32_w]
          rfl
        refine pure_ (i := 2) (N := some 19) (v := ?_) (a' := ?_) #[true, true, true, false, false, false, false, false, false] rfl rfl (by kernel_rfl) (fun _ _ _ h => h) (Or.inl ⟨by rfl, ?_⟩) ?_ ?_
        rotate_left
        · intro w'
          go_simp
          with_reducible rfl
        rotate_left
        · simp only [Act.put, List.setIfInBounds_toArray, List.set_cons_zero, List.set_cons_succ, i64_w, i32_w]
          rfl
        refine take_ (i := 3) (N := some 20) (v := ?_) (a' := ?_) #[true, true, true, true, false, false, false, false, false] rfl rfl (by kernel_rfl) (fun _ _ _ h => h) (Or.inl ⟨by rfl, ?_⟩) hHeld ?_ ?_
        rotate_left
        · rintro w' ⟨s0, s1, s2, s3⟩
          go_simp
          with_reducible rfl
        rotate_left
        · simp only [Act.put, List.setIfInBounds_toArray, List.set_cons_zero, List.set_cons_succ, i64_w, i32_w]
          rfl
        refine take_ (i := 4) (N := some 21) (v := ?_) (a' := ?_) #[true, true, true, true, true, false, false, false, false] rfl rfl (by kernel_rfl) (fun _ _ _ h => h) (Or.inl ⟨by rfl, ?_⟩) hHeld ?_ ?_
        rotate_left
        · rintro w' ⟨s0, s1, s2, s3⟩
          go_simp
          with_reducible rfl
        rotate_left
        · simp only [Act.put, List.setIfInBounds_toArray, List.set_cons_zero, List.set_cons_succ, i64_w, i32_w]
          rfl
        refine pure_ (i := 5) (N := some 22) (v := ?_) (a' := ?_) #[true, true, true, true, true, true, false, false, false] rfl rfl (by kernel_rfl) (fun _ _ _ h => h) (Or.inl ⟨by rfl, ?_⟩) ?_ ?_
        rotate_left
        · intro w'
          go_simp
          with_reducible rfl
        rotate_left
        · simp only [Act.put, List.setIfInBounds_toArray, List.set_cons_zero, List.set_cons_succ, i64_w, i32_w]
          rfl
        refine pure_ (i := 6) (N := some 23) (v := ?_) (a' := ?_) #[true, true, true, true, true, true, true, false, false] rfl rfl (by kernel_rfl) (fun _ _ _ h => h) (Or.inl ⟨by rfl, ?_⟩) ?_ ?_
        rotate_left
        · intro w'
          go_simp
          with_reducible rfl
        rotate_left
        · simp only [Act.put, List.setIfInBounds_toArray, List.set_cons_zero, List.set_cons_succ, i64_w, i32_w]
          rfl
        refine take_ (i := 7) (N := some 24) (v := ?_) (a' := ?_) #[true, true, true, true, true, true, true, true, false] rfl rfl (by kernel_rfl) (fun _ _ _ h => h) (Or.inl ⟨by rfl, ?_⟩) hHeld ?_ ?_
        rotate_left
        · rintro w' ⟨s0, s1, s2, s3⟩
          go_simp
          with_reducible rfl
        rotate_left
        · simp only [Act.put, List.setIfInBounds_toArray, List.set_cons_zero, List.set_cons_succ, i64_w, i32_w]
          rfl
        refine pure_ (i := 8) (N := some 4) (v := ?_) (a' := ?_) #[true, true, true, true, true, true, true, true, true] rfl rfl (by kernel_rfl) (fun _ _ _ h => h) (Or.inl ⟨by rfl, ?_⟩) ?_ ?_
        rotate_left
        · intro w'
          go_simp
          with_reducible rfl
        rotate_left
        · simp only [Act.put, List.setIfInBounds_toArray, List.set_cons_zero, List.set_cons_succ, i64_w, i32_w]
          rfl
        refine done_ (by kernel_rfl) ?_
        
        have J4 := Aside0.mk (HDREW.out _ _ J3.out)
        have X4 : Aside0 (w3.drew.heap[nb]? = some (.cells #[.int .i64 x] 3 (0, 0))) := ⟨X3.out⟩
        have S4 : Aside0 ((Kd.int .i64).C w3.drew A1' ss.length ss) := ⟨Kd.C_drew S1.out⟩
        generalize w3.drew = w4 at J4 X4 S4 ⊢
        have hn4 : w4.cell? ⟨nb, 0, none⟩ = some (.int .i64 x) := (blk_cell X4.out 0).trans rfl
        have hf4 : w4.frozen? ⟨nb, 0, none⟩ = false := blk_frozen X4.out 0
        have hk1 : m + 1 - k = (m - k) + 1 := by omega
        have hch := HCH.out
        rw [hk1] at hch
        rcases hz : ss with _ | ⟨y, t⟩
        · subst hz
          rw [chain_end _ HSS.out.symm] at hch
          have HCE := Aside0.mk hch
          clear hch hn4 hf4
          gi_wp2
          refine bodyPost_ret (results_none rfl _ _ _) rfl ?_
          exact ⟨⟨_, rfl⟩, .inl ⟨_, HM.out ▸ HCE.out, J4.out⟩⟩
        · subst hz
          rw [chain_on _ HSS.out.symm] at hch
          have HCE := Aside0.mk hch
          clear hch
          obtain ⟨ai, z, eA, hz, hcz⟩ := at_int' S4.out 0 (by simp)
          subst eA
          obtain rfl : y = z := by simpa using hz
          have hy01 := SUP.out y (by simp)
          rw [← HM.out] at hy01
          have X5 := Aside0.mk (blk_set X4.out 0 (.int .i64 y))
          have J5 := Aside0.mk (HSET.out _ _ (.int .i64 y) J4.out)
          have hcz' : w4.cell? ai = some (.int .i64 y) := by have e_ : ai.add 0 = ai := (by simp [Addr.add]); rw [e_] at hcz; exact hcz
          have h0l : (0 : Int) < ((y :: t).length : Int) := by simp
          gi_wp2
          go_roundw
          case rel => exact ⟨k + 1, y, p ++ [x], by go_num, by omega, hy01, J5.out, by simpa using X5.out, by have e_ : m + 1 - (k + 1) = m - k := (by omega); rw [e_, List.append_assoc]; exact HCE.out⟩
          case measure => simp [intOf]; omega
      · gi_wp2
        refine bodyPost_ret (results_none rfl _ _ _) rfl ?_
        have hch := HCH.out
        have hk1 : m + 1 - k = (m - k) + 1 := by omega
        rw [hk1] at hch
        refine ⟨⟨_, rfl⟩, .inr ⟨p ++ [x], ?_, hJx3⟩⟩
        rw [← HM.out]
        refine ⟨(match (tyAt l x).f1 with | [] => [] | y :: _ => chain l (m - k) y), ?_⟩
        rw [List.append_assoc]
        exact hch
    · obtain rfl : k = m + 1 := by omega
      have hch := HCH.out
      rw [Nat.sub_self] at hch
      have HCE : Aside0 (p = chain l (m + 1) x0) := ⟨by simpa [chain] using hch⟩
      clear hch hk hlk hnx
      gi_wp2
      go_end0
      exact ⟨⟨_, rfl⟩, .inl ⟨p, HM.out ▸ HCE.out, HJ.out⟩⟩
end Go.Proofs.YtfgglniigeagdaaDoor.Cn
namespace Go.Proofs.YtfgglniigeagdaaDoor.Cn
set_option linter.unusedSimpArgs false
set_option linter.unusedVariables false
open Go.RowKit Go.Maps Go.Proofs.YtfgglniigeagdaaDoorW.PrintWords Go.Proofs.YtfgglniigeagdaaDoorW.PrintLast Go.Proofs.YtfgglniigeagdaaDoorW.PrintMore Go.Proofs.YtfgglniigeagdaaDoor.QD
attribute [local go_sem] Oper.semAt_some
/-- Does the heap type a match b, in a closed list? -/
noncomputable def heapM (l : List S62) (a b : Int) : Bool :=
  if isM l a && isM l b then
    if a < 0 then
      if b < 0 then absM a b else decide (a = -10) && decide (kindOf l b ≠ -1) || decide (a = -2) && decide (kindOf l b = -1)
    else if b < 0 then absM (kindOf l a) b
    else (chain l ((flat l).length + 1) a).any fun x => (oneM l l (x.toNat : Int) (b.toNat : Int)).1
  else false
theorem results_cell1 {fn : Func} {p : Tmp} {ty : TypeId} (h : fn.results = #[.cell p ty]) (tmps : Array Value) (P : Program) (w : World) :
    (results fn tmps).run P w = ((asAddr (tmps.getD p undef)).run P w).andThen fun a w₁ => (loadVar ty a).run P w₁ := by
  simp only [results, h]
  simp [Sem.run_bind, Result.andThen]
theorem heapM_no {l : List S62} {a b : Int} (h : ¬ (isM l a = true ∧ isM l b = true)) : heapM l a b = false := by
  unfold heapM
  rw [if_neg]
  simpa using h
theorem isM_bounds {l : List S62} {h : Int} (hh : isM l h = true) : -12 ≤ h ∧ h < ((flat l).length : Int) := by simpa [isM] using hh
set_option maxRecDepth 100000 in
theorem sabove_calls (cb : Nat) (x : Int) (w : World) : Calls Tryd.prog 59 #[.pointer (some ⟨cb, 0, none⟩), .int .i64 x] w fun e w' => e = .returned (.func (.func 75) #[] #[.pointer (some ⟨w.heap.size, 0, none⟩), .pointer (some ⟨w.heap.size + 1, 0, none⟩)]) ∧ w' = (w.alloc (.cells #[.pointer (some ⟨cb, 0, none⟩)] 99)).alloc (.cells #[.int .i64 x] 3) := by
  go_enter Tryd.func59, Tryd.ntmps59
  go_wp2_with fail
  go_ret
  exact ⟨rfl, rfl⟩
theorem heapM_rows {l : List S62} {a b : Int} (ha : isM l a = true) (hb : isM l b = true) (a0 : 0 ≤ a) (b0 : 0 ≤ b) : heapM l a b = true ↔ ∃ x ∈ chain l ((flat l).length + 1) a, SameT l x.toNat b.toNat := by
  unfold heapM
  rw [if_pos (by rw [ha, hb]; rfl), if_neg (by omega), if_neg (by omega)]
  rw [List.any_eq_true]
  exact Iff.rfl
/-- The boxes of context.heap. -/
structure HB (w : World) (cb : Nat) (b : Int) (v : Bool) (W : World) : Prop where
  b0 : W.heap[w.heap.size]? = some (.cells #[.pointer (some ⟨cb, 0, none⟩)] 99 (0, 0))
  b1 : W.heap[w.heap.size + 1]? = some (.cells #[.int .i64 b] 3 (0, 0))
  b2 : W.heap[w.heap.size + 1 + 1]? = some (.cells #[.bool v] 4 (0, 0))
  b3 : W.heap[w.heap.size + 1 + 1 + 1]? = some (.cells #[.pointer (some ⟨cb, 0, none⟩)] 99 (0, 0))
  bel : Below w.heap.size w W
theorem HB.put {w W : World} {cb : Nat} {b : Int} {v : Bool} (h : HB w cb b v W) (l : Nat) (o : Obj) (hl : w.heap.size + 1 + 1 + 1 < l) (hlt : l < W.heap.size) : HB w cb b v (W.putObj l o) :=
  ⟨(World.putObj_heap_other (by omega)).trans h.b0, (World.putObj_heap_other (by omega)).trans h.b1, (World.putObj_heap_other (by omega)).trans h.b2, (World.putObj_heap_other (by omega)).trans h.b3,
   h.bel.grown (grownBy_putObj' W l o) h.bel.size (fun k e => by cases e; omega)⟩
theorem HB.set {w W : World} {cb : Nat} {b : Int} {v : Bool} (h : HB w cb b v W) (l : Nat) (u : Value) (hl : w.heap.size + 1 + 1 + 1 < l) : HB w cb b v (W.setCell ⟨l, 0, none⟩ u) :=
  ⟨blk_far h.b0 (show w.heap.size ≠ l by omega) u, blk_far h.b1 (show w.heap.size + 1 ≠ l by omega) u, blk_far h.b2 (show w.heap.size + 1 + 1 ≠ l by omega) u, blk_far h.b3 (show w.heap.size + 1 + 1 + 1 ≠ l by omega) u, h.bel.trans ((Below.refl _ _).setCell (p := ⟨l, 0, none⟩) (by show w.heap.size ≤ l; omega) u)⟩
theorem HB.store {w W : World} {cb : Nat} {b : Int} {v : Bool} (h : HB w cb b v W) (u : Bool) : HB w cb b u (W.setCell ⟨w.heap.size + 1 + 1, 0, none⟩ (.bool u)) :=
  ⟨blk_far h.b0 (show w.heap.size ≠ w.heap.size + 1 + 1 by omega) _, blk_far h.b1 (show w.heap.size + 1 ≠ w.heap.size + 1 + 1 by omega) _, by have := blk_set h.b2 0 (.bool u); simpa using this, blk_far h.b3 (show w.heap.size + 1 + 1 + 1 ≠ w.heap.size + 1 + 1 by omega) _, h.bel.trans ((Below.refl _ _).setCell (p := ⟨w.heap.size + 1 + 1, 0, none⟩) (by show w.heap.size ≤ w.heap.size + 1 + 1; omega) _)⟩
theorem HB.stays {w : World} {cb : Nat} {b : Int} {v : Bool} {nb B : Nat} (hn : w.heap.size + 1 + 1 + 1 < nb) (hB : w.heap.size + 1 + 1 + 1 < B) (q : Prop) : Stays nb B (fun W => HB w cb b v W ∧ q) where
  put := fun W l o hl hlt h => ⟨h.1.put l o (by omega) hlt, h.2⟩
  set := fun W u h => ⟨h.1.set nb u hn, h.2⟩
  drew := fun W h => ⟨⟨h.1.b0, h.1.b1, h.1.b2, h.1.b3, h.1.bel.drew⟩, h.2⟩
  alloc := fun W o h => ⟨⟨blk_alloc h.1.b0 o, blk_alloc h.1.b1 o, blk_alloc h.1.b2 o, blk_alloc h.1.b3 o, h.1.bel.alloc h.1.bel.size o⟩, h.2⟩
set_option maxRecDepth 100000 in
set_option maxHeartbeats 8000000 in
theorem sheap_calls (l : List S62) (hc : Clo l) (cb : Nat) (a b : Int) (w : World) (hctx : Ctx l cb w) (hll : (flat l).length ≤ 1048576) :
    Calls Tryd.prog 54 #[.pointer (some ⟨cb, 0, none⟩), .int .i64 a, .int .i64 b] w fun e w' => e = .returned (.bool (heapM l a b)) ∧ Below w.heap.size w w' := by
  have ba : Below w.heap.size w (((w.alloc (.cells #[.pointer (some ⟨cb, 0, none⟩)] 99)).alloc (.cells #[.int .i64 b] 3)).alloc (.cells #[.bool false] 4)) := (((Below.refl _ _).alloc (Nat.le_refl _) _).alloc (by simp) _).alloc (by simp; omega) _
  have C0 := Aside0.mk (hctx.below ba)
  have B0 := Aside0.mk ba
  have HC := Aside0.mk hc
  have HLL := Aside0.mk hll
  have x0 : (((w.alloc (.cells #[.pointer (some ⟨cb, 0, none⟩)] 99)).alloc (.cells #[.int .i64 b] 3)).alloc (.cells #[.bool false] 4)).heap[w.heap.size]? = some (.cells #[.pointer (some ⟨cb, 0, none⟩)] 99 (0, 0)) := blk_alloc (blk_alloc (blk_new w _) _) _
  have x1 : (((w.alloc (.cells #[.pointer (some ⟨cb, 0, none⟩)] 99)).alloc (.cells #[.int .i64 b] 3)).alloc (.cells #[.bool false] 4)).heap[w.heap.size + 1]? = some (.cells #[.int .i64 b] 3 (0, 0)) := by have h := blk_alloc (blk_new (w.alloc (.cells #[.pointer (some ⟨cb, 0, none⟩)] 99)) (.cells #[.int .i64 b] 3)) (.cells #[.bool false] 4); rw [World.size_alloc] at h; exact h
  have x2 : (((w.alloc (.cells #[.pointer (some ⟨cb, 0, none⟩)] 99)).alloc (.cells #[.int .i64 b] 3)).alloc (.cells #[.bool false] 4)).heap[w.heap.size + 1 + 1]? = some (.cells #[.bool false] 4 (0, 0)) := by have h := blk_new ((w.alloc (.cells #[.pointer (some ⟨cb, 0, none⟩)] 99)).alloc (.cells #[.int .i64 b] 3)) (.cells #[.bool false] 4); rw [World.size_alloc, World.size_alloc] at h; exact h
  have hout : ∀ v : Bool, Below w.heap.size w (((w.alloc (.cells #[.pointer (some ⟨cb, 0, none⟩)] 99)).alloc (.cells #[.int .i64 b] 3)).alloc (.cells #[.bool v] 4)) := fun v => (((Below.refl _ _).alloc (Nat.le_refl _) _).alloc (by simp) _).alloc (by simp; omega) _
  have HOUT := Aside0.mk hout
  have CW := Aside0.mk hctx
  clear ba hctx hc hll hout
  by_cases ha : isM l a = true
  · by_cases hb : isM l b = true
    · obtain ⟨ha0, ha1⟩ := isM_bounds ha
      obtain ⟨hb0, hb1⟩ := isM_bounds hb
      by_cases na : a < 0
      · by_cases nb : b < 0
        · have EM : Aside0 (heapM l a b = absM a b) := ⟨by unfold heapM; rw [if_pos (by rw [ha, hb]; rfl), if_pos na, if_pos nb]⟩
          have K1 := sis_calls l cb a _ C0.out
          have K2 := sis_calls l cb b _ C0.out
          rw [ha] at K1
          rw [hb] at K2
          have K3 := sabstract_calls a b (((w.alloc (.cells #[.pointer (some ⟨cb, 0, none⟩)] 99)).alloc (.cells #[.int .i64 b] 3)).alloc (.cells #[.bool false] 4)) ha0 na hb0 nb
          rw [← EM.out] at K3
          clear ha hb x0 x1 x2
          go_enter Tryd.func54, Tryd.ntmps54
          go_wp2_with (first | ((with_reducible refine K1.mono ?_); rintro e w1 ⟨rfl, rfl⟩) | ((with_reducible refine K2.mono ?_); rintro e w1 ⟨rfl, rfl⟩) | ((with_reducible refine K3.mono ?_); rintro e w1 ⟨rfl, rfl⟩))
          refine bodyPost_ret (v := .bool (heapM l a b)) ?_ rfl ?_
          · rw [results_cell1 rfl]; go_simp
          · exact ⟨rfl, HOUT.out _⟩
        · have EM : Aside0 (heapM l a b = (decide (a = -10) && decide (kindOf l b ≠ -1) || decide (a = -2) && decide (kindOf l b = -1))) := ⟨by unfold heapM; rw [if_pos (by rw [ha, hb]; rfl), if_pos na, if_neg nb]⟩
          have K1 := sis_calls l cb a _ C0.out
          have K2 := sis_calls l cb b _ C0.out
          rw [ha] at K1
          rw [hb] at K2
          have K3 := skind_calls l cb b _ C0.out (by omega) hb1
          have hk := kindM_in (tyAt l b).f2.f0
          obtain ⟨kb, hkb⟩ : ∃ kb, kb = kindOf l b := ⟨_, rfl⟩
          rw [← hkb] at K3 EM
          replace hk : kb = -1 ∨ kb = -8 ∨ kb = -9 := by rw [hkb]; exact hk
          clear ha hb x0 x1 x2 hkb
          by_cases a10 : a = -10
          · subst a10
            rcases hk with rfl | rfl | rfl
            all_goals
              go_enter Tryd.func54, Tryd.ntmps54
              go_wp2_with (first | ((with_reducible refine K1.mono ?_); rintro e w1 ⟨rfl, rfl⟩) | ((with_reducible refine K2.mono ?_); rintro e w1 ⟨rfl, rfl⟩) | ((with_reducible refine K3.mono ?_); rintro e w1 ⟨rfl, rfl⟩))
              refine bodyPost_ret (v := .bool (heapM l (-10) b)) ?_ rfl ?_
              · rw [EM.out, results_cell1 rfl]; go_simp
              · exact ⟨rfl, HOUT.out _⟩
          · have e10 : (a == -10) = false := by simp [a10]
            by_cases a2 : a = -2
            · subst a2
              rcases hk with rfl | rfl | rfl
              all_goals
                go_enter Tryd.func54, Tryd.ntmps54
                go_wp2_with (first | ((with_reducible refine K1.mono ?_); rintro e w1 ⟨rfl, rfl⟩) | ((with_reducible refine K2.mono ?_); rintro e w1 ⟨rfl, rfl⟩) | ((with_reducible refine K3.mono ?_); rintro e w1 ⟨rfl, rfl⟩))
                refine bodyPost_ret (v := .bool (heapM l (-2) b)) ?_ rfl ?_
                · rw [EM.out, results_cell1 rfl]; go_simp
                · exact ⟨rfl, HOUT.out _⟩
            · have e2 : (a == -2) = false := by simp [a2]
              have EF : Aside0 (heapM l a b = false) := ⟨by rw [EM.out]; simp [a10, a2]⟩
              go_enter Tryd.func54, Tryd.ntmps54
              go_wp2_with (first | ((with_reducible refine K1.mono ?_); rintro e w1 ⟨rfl, rfl⟩) | ((with_reducible refine K2.mono ?_); rintro e w1 ⟨rfl, rfl⟩) | ((with_reducible refine K3.mono ?_); rintro e w1 ⟨rfl, rfl⟩))
              refine bodyPost_ret (v := .bool (heapM l a b)) ?_ rfl ?_
              · rw [EF.out, results_cell1 rfl]; go_simp
              · exact ⟨rfl, HOUT.out _⟩
      · by_cases nb : b < 0
        · have EM : Aside0 (heapM l a b = absM (kindOf l a) b) := ⟨by unfold heapM; rw [if_pos (by rw [ha, hb]; rfl), if_neg na, if_pos nb]⟩
          have K1 := sis_calls l cb a _ C0.out
          have K2 := sis_calls l cb b _ C0.out
          rw [ha] at K1
          rw [hb] at K2
          have hkin := kindM_in (tyAt l a).f2.f0
          have hkin' : kindOf l a = -1 ∨ kindOf l a = -8 ∨ kindOf l a = -9 := hkin
          have HKI := Aside0.mk hkin'
          clear hkin hkin'
          go_enter Tryd.func54, Tryd.ntmps54
          go_wp2_with (first | ((with_reducible refine K1.mono ?_); rintro e w1 ⟨rfl, rfl⟩) | ((with_reducible refine K2.mono ?_); rintro e w1 ⟨rfl, rfl⟩))
          have HA : Aside0 (0 ≤ a ∧ a < ((flat l).length : Int)) := ⟨by omega, ha1⟩
          have HB : Aside0 (-12 ≤ b ∧ b < 0) := ⟨hb0, nb⟩
          have HK0 : Aside0 (-12 ≤ kindOf l a ∧ kindOf l a < 0) := ⟨by rcases HKI.out with h | h | h <;> rw [h] <;> decide⟩
          have Y0 : (World.heap ((((w.alloc (.cells #[.pointer (some ⟨cb, 0, none⟩)] 99)).alloc (.cells #[.int .i64 b] 3)).alloc (.cells #[.bool false] 4)).drew))[w.heap.size]? = some (.cells #[.pointer (some ⟨cb, 0, none⟩)] 99 (0, 0)) := x0
          have Y1 : (World.heap ((((w.alloc (.cells #[.pointer (some ⟨cb, 0, none⟩)] 99)).alloc (.cells #[.int .i64 b] 3)).alloc (.cells #[.bool false] 4)).drew))[w.heap.size + 1]? = some (.cells #[.int .i64 b] 3 (0, 0)) := x1
          have Y2 : (World.heap ((((w.alloc (.cells #[.pointer (some ⟨cb, 0, none⟩)] 99)).alloc (.cells #[.int .i64 b] 3)).alloc (.cells #[.bool false] 4)).drew))[w.heap.size + 1 + 1]? = some (.cells #[.bool false] 4 (0, 0)) := x2
          have C5 : Aside0 (Ctx l cb ((((w.alloc (.cells #[.pointer (some ⟨cb, 0, none⟩)] 99)).alloc (.cells #[.int .i64 b] 3)).alloc (.cells #[.bool false] 4)).drew)) := ⟨C0.out.below ⟨rfl, rfl, rfl, Nat.le_refl _, fun _ _ => rfl⟩⟩
          have B5 : Aside0 (Below w.heap.size w ((((w.alloc (.cells #[.pointer (some ⟨cb, 0, none⟩)] 99)).alloc (.cells #[.int .i64 b] 3)).alloc (.cells #[.bool false] 4)).drew)) := ⟨B0.out.drew⟩
          refine start_ (n := 6) (S := fun w' => w'.cell? ⟨w.heap.size, 0, none⟩ = some (.pointer (some ⟨cb, 0, none⟩)) ∧ w'.cell? ⟨w.heap.size + 1, 0, none⟩ = some (.int .i64 b) ∧ w'.cell? ⟨w.heap.size + 1 + 1, 0, none⟩ = some (.bool false) ∧ w'.frozen? ⟨w.heap.size + 1 + 1, 0, none⟩ = false) (ds := [5]) #[false, false, false, false, false, false] (by kernel_rfl) rfl rfl ⟨(blk_cell Y0 0).trans rfl, (blk_cell Y1 0).trans rfl, (blk_cell Y2 0).trans rfl, blk_frozen Y2 0⟩ (fun hHeld => ?_)
          generalize World.drew _ = w5 at Y0 Y1 Y2 C5 B5 hHeld ⊢
          refine pure_ (i := 1) (N := some 34) (v := ?_) (a' := ?_) #[false, true, false, false, false, false] rfl rfl (by kernel_rfl) (fun _ _ _ h => h) (Or.inl ⟨by rfl, ?_⟩) ?_ ?_
          rotate_left
          · intro w'
            go_simp
            with_reducible rfl
          rotate_left
          · simp only [Act.put, List.setIfInBounds_toArray, List.set_cons_zero, List.set_cons_succ, i64_w, i32_w]
            rfl
          refine take_ (i := 0) (N := some 33) (v := ?_) (a' := ?_) #[true, true, false, false, false, false] rfl rfl (by kernel_rfl) (fun _ _ _ h => h) (Or.inl ⟨by rfl, ?_⟩) hHeld ?_ ?_
          rotate_left
          · rintro w' ⟨s0, s1, s2, s3⟩
            go_simp
            with_reducible rfl
          rotate_left
          · simp only [Act.put, List.setIfInBounds_toArray, List.set_cons_zero, List.set_cons_succ, i64_w, i32_w]
            rfl
          refine take_ (i := 3) (N := some 36) (v := ?_) (a' := ?_) #[true, true, false, true, false, false] rfl rfl (by kernel_rfl) (fun _ _ _ h => h) (Or.inl ⟨by rfl, ?_⟩) hHeld ?_ ?_
          rotate_left
          · rintro w' ⟨s0, s1, s2, s3⟩
            go_simp
            with_reducible rfl
          rotate_left
          · simp only [Act.put, List.setIfInBounds_toArray, List.set_cons_zero, List.set_cons_succ, i64_w, i32_w]
            rfl
          refine one_ (i := 2) (N := some 35) #[true, true, true, true, false, false] rfl rfl (by kernel_rfl) (by decide) (fun K hK => ?_)
          refine goes_ Tryd.func60 (by kernel_rfl) rfl #[.pointer (some ⟨cb, 0, none⟩), .int .i64 a] (by rfl) rfl rfl (by simp only [List.map_toArray, List.map_cons, List.map_nil]; rfl) ?_
          refine (skind_calls l cb a w5 C5.out HA.out.1 HA.out.2).mono ?_
          rintro e w6 ⟨rfl, rfl⟩
          refine ⟨_, rfl, ?_⟩
          refine hK.out _ _ ⟨(blk_cell Y0 0).trans rfl, (blk_cell Y1 0).trans rfl, (blk_cell Y2 0).trans rfl, blk_frozen Y2 0⟩ (fun hHeld => ?_)
          clear hK K
          refine norm_ (a' := ?_) ?_ ?_
          rotate_left
          · show Act.put _ (some 35) _ = _
            simp only [Act.put, List.setIfInBounds_toArray, List.set_cons_zero, List.set_cons_succ, i64_w, i32_w]
            rfl
          refine one_ (i := 4) (N := some 37) #[true, true, true, true, true, false] rfl rfl (by kernel_rfl) (by decide) (fun K hK => ?_)
          refine goes_ Tryd.func72 (by kernel_rfl) rfl #[.int .i64 (kindOf l a), .int .i64 b] (by rfl) rfl rfl (by simp only [List.map_toArray, List.map_cons, List.map_nil]; rfl) ?_
          refine (sabstract_calls (kindOf l a) b w6 HK0.out.1 HK0.out.2 HB.out.1 HB.out.2).mono ?_
          rintro e w6 ⟨rfl, rfl⟩
          refine ⟨_, rfl, ?_⟩
          refine hK.out _ _ ⟨(blk_cell Y0 0).trans rfl, (blk_cell Y1 0).trans rfl, (blk_cell Y2 0).trans rfl, blk_frozen Y2 0⟩ (fun hHeld => ?_)
          clear hK K
          refine norm_ (a' := ?_) ?_ ?_
          rotate_left
          · show Act.put _ (some 37) _ = _
            simp only [Act.put, List.setIfInBounds_toArray, List.set_cons_zero, List.set_cons_succ, i64_w, i32_w]
            rfl
          refine last_ (i := 5) (N := none) #[true, true, true, true, true, true] rfl rfl (by kernel_rfl) (by decide) (fun K hK => ?_)
          have hs_ : w6.cell? ⟨w.heap.size + 1 + 1, 0, none⟩ = some (.bool false) := (blk_cell Y2 0).trans rfl
          have hfs_ : w6.frozen? ⟨w.heap.size + 1 + 1, 0, none⟩ = false := blk_frozen Y2 0
          refine skip_ (w1 := ?_) (by rfl) rfl ?_ ?_
          rotate_left
          · go_simp
            rfl
          refine hK.out _ _ ?_
          clear hK K
          refine done_ (by kernel_rfl) ?_
          
          have Z2 := blk_set Y2 0 (.bool (absM (kindOf l a) b))
          have zc : (w6.setCell ⟨w.heap.size + 1 + 1, 0, none⟩ (.bool (absM (kindOf l a) b))).cell? ⟨w.heap.size + 1 + 1, 0, none⟩ = some (.bool (absM (kindOf l a) b)) := (blk_cell Z2 0).trans rfl
          have B6 : Below w.heap.size w (w6.setCell ⟨w.heap.size + 1 + 1, 0, none⟩ (.bool (absM (kindOf l a) b))) := B5.out.trans ((Below.refl _ _).setCell (p := ⟨w.heap.size + 1 + 1, 0, none⟩) (by show w.heap.size ≤ w.heap.size + 1 + 1; omega) _)
          go_wp2_with fail
          refine bodyPost_ret (v := .bool (heapM l a b)) ?_ rfl ?_
          · rw [EM.out, results_cell1 rfl]; go_simp
          · exact ⟨rfl, B6⟩
        · have K1 := sis_calls l cb a _ C0.out
          have K2 := sis_calls l cb b _ C0.out
          rw [ha] at K1
          rw [hb] at K2
          have K3 := sabove_calls cb a (((w.alloc (.cells #[.pointer (some ⟨cb, 0, none⟩)] 99)).alloc (.cells #[.int .i64 b] 3)).alloc (.cells #[.bool false] 4))
          refine (callsIn_wide (n := 5)).1 ?_
          refine callsIn_of_wp_marks Tryd.func54 rfl trivial ?_ rfl
          simp only [Tryd.ntmps54, List.size_toArray, List.length_cons, List.length_nil, Nat.reduceAdd, Nat.reduceSub, Array.replicate_succ, Array.replicate_zero, List.push_toArray, List.append_toArray, List.nil_append, List.cons_append]
          gi_wp2_with (refine ⟨trivial, ?_⟩; first | (gi_at_call 57; first | ((with_reducible refine (callsIn_wide.2 K1).mono ?_); rintro e w1 ⟨rfl, rfl⟩) | ((with_reducible refine (callsIn_wide.2 K2).mono ?_); rintro e w1 ⟨rfl, rfl⟩)) | (gi_at_call 59; refine (callsIn_wide.2 K3).mono ?_; rintro e w1 ⟨rfl, rfl⟩))
          obtain ⟨W4, hW4⟩ : ∃ W4, W4 = (((((w.alloc (.cells #[.pointer (some ⟨cb, 0, none⟩)] 99)).alloc (.cells #[.int .i64 b] 3)).alloc (.cells #[.bool false] 4)).alloc (.cells #[.pointer (some ⟨cb, 0, none⟩)] 99)).alloc (.cells #[.int .i64 a] 3)) := ⟨_, rfl⟩
          have hs4 : W4.heap.size = w.heap.size + 1 + 1 + 1 + 1 + 1 := by rw [hW4]; simp
          have hb4 : HB w cb b false W4 := ⟨by rw [hW4]; exact blk_alloc (blk_alloc x0 _) _, by rw [hW4]; exact blk_alloc (blk_alloc x1 _) _, by rw [hW4]; exact blk_alloc (blk_alloc x2 _) _,
            by rw [hW4]; have h := blk_alloc (blk_new (((w.alloc (.cells #[.pointer (some ⟨cb, 0, none⟩)] 99)).alloc (.cells #[.int .i64 b] 3)).alloc (.cells #[.bool false] 4)) (.cells #[.pointer (some ⟨cb, 0, none⟩)] 99)) (.cells #[.int .i64 a] 3); simpa using h,
            by rw [hW4]; exact (B0.out.alloc (by simp; omega) _).alloc (by simp; omega) _⟩
          have hx4 : W4.heap[w.heap.size + 1 + 1 + 1 + 1]? = some (.cells #[.int .i64 a] 3 (0, 0)) := by rw [hW4]; have h := blk_new ((((w.alloc (.cells #[.pointer (some ⟨cb, 0, none⟩)] 99)).alloc (.cells #[.int .i64 b] 3)).alloc (.cells #[.bool false] 4)).alloc (.cells #[.pointer (some ⟨cb, 0, none⟩)] 99)) (.cells #[.int .i64 a] 3); simpa using h
          rw [← hW4]
          have ha' := ha
          have hb' := hb
          clear hW4 K1 K2 K3 x0 x1 x2 C0 B0 HOUT ha hb
          have H4 := Aside0.mk hb4
          have X4 := Aside0.mk hx4
          have S4 := Aside0.mk hs4
          clear hb4 hx4 hs4
          refine range_cell (gf := 75) (lb := #[.pointer (some ⟨w.heap.size + 1 + 1 + 1, 0, none⟩), .pointer (some ⟨w.heap.size + 1 + 1 + 1 + 1, 0, none⟩)]) (nb := w.heap.size + 1 + 1 + 1 + 1) rfl (fun args w => enters_ Tryd.func75 (by kernel_rfl) rfl args w) rfl
            (above_seq l HC.out cb (w.heap.size + 1 + 1 + 1) (w.heap.size + 1 + 1 + 1 + 1) a (by omega) ha1 HLL.out 4) (by rw [S4.out]; omega) X4.out
            (fun p W => HB w cb b false W ∧ ∀ x ∈ p, ¬ SameT l x.toNat b.toNat)
            (fun c p W => c = .ret ∧ HB w cb b true W ∧ ∃ x ∈ p, SameT l x.toNat b.toNat)
            (fun p => HB.stays (by omega) (by rw [S4.out]; omega) _) (fun p W h => ⟨h.1.b3, CW.out.below h.1.bel⟩)
            (fun c p W l_ o hl hlt h => ⟨h.1, h.2.1.put l_ o (by rw [S4.out] at hl; omega) hlt, h.2.2⟩) ⟨H4.out, fun x hx => by cases hx⟩ ?a1 ?assign ?body ?done ?stop
          case assign =>
            intro rl x W K hK
            gi_wp2
            exact hK
          case body =>
            rintro rl p x W ⟨hB, hp⟩ ⟨hx0, hx1⟩
            have HB0 := Aside0.mk hB
            have HP0 := Aside0.mk hp
            obtain ⟨L, Ai, ci, Aa, ca, I, e1, e2, e3, e4, e5, e6⟩ := (CW.out.below hB.bel).ex
            have hIl : I.length = (flat l).length := e6.1
            obtain ⟨ai, v1, eA, g1, q1⟩ := at_int' e4 x.toNat (by omega)
            subst eA
            obtain ⟨ai', v2, eA, g2, q2⟩ := at_int' e4 b.toNat (by omega)
            injection eA with eA
            subst eA
            have y0 : W.cell? ⟨w.heap.size, 0, none⟩ = some (.pointer (some ⟨cb, 0, none⟩)) := (blk_cell hB.b0 0).trans rfl
            have y1 : W.cell? ⟨w.heap.size + 1, 0, none⟩ = some (.int .i64 b) := (blk_cell hB.b1 0).trans rfl
            have y2 : W.cell? ⟨cb, 1, none⟩ = some (.slice (some ai) I.length ci) := (blk_cell e1 1).trans rfl
            have SI : Aside0 (v1 = v2 ↔ SameT l x.toNat b.toNat) := ⟨by rw [← e6.2 x.toNat b.toNat (by omega) (by omega), g1, g2]; simp⟩
            have hxl : x < (I.length : Int) := by omega
            have hbl : b < (I.length : Int) := by omega
            clear e1 e2 e3 e4 e5 e6 hB hp g1 g2 hIl hx1
            gi_wp2
            refine startR_ (by rintro ⟨_, _, h_⟩; exact h_) (by kernel_rfl) (n := 15) (S := fun w' => w'.cell? ⟨w.heap.size, 0, none⟩ = some (.pointer (some ⟨cb, 0, none⟩)) ∧ w'.cell? ⟨w.heap.size + 1, 0, none⟩ = some (.int .i64 b) ∧ w'.cell? ⟨cb, 1, none⟩ = some (.slice (some ai) I.length ci) ∧ w'.cell? (ai.add x.toNat) = some (.int .i64 v1) ∧ w'.cell? (ai.add b.toNat) = some (.int .i64 v2)) (ds := []) #[false, false, false, false, false, false, false, false, false, false, false, false, false, false, false] (by kernel_rfl) rfl rfl ⟨y0, y1, y2, q1, q2⟩ (fun hHeld => ?_)
            refine pure_ (i := 4) (N := some 66) (v := ?_) (a' := ?_) #[false, false, false, false, true, false, false, false, false, false, false, false, false, false, false] rfl rfl (by kernel_rfl) (fun _ _ _ h => h) (Or.inl ⟨by rfl, ?_⟩) ?_ ?_
            rotate_left
            · intro w'
              go_simp
              with_reducible rfl
            rotate_left
            · simp only [Act.put, List.setIfInBounds_toArray, List.set_cons_zero, List.set_cons_succ, i64_w, i32_w]
              rfl
            refine take_ (i := 0) (N := some 62) (v := ?_) (a' := ?_) #[true, false, false, false, true, false, false, false, false, false, false, false, false, false, false] rfl rfl (by kernel_rfl) (fun _ _ _ h => h) (Or.inl ⟨by rfl, ?_⟩) hHeld ?_ ?_
            rotate_left
            · rintro w' ⟨s0, s1, s2, s3, s4⟩
              go_simp
              with_reducible rfl
            rotate_left
            · simp only [Act.put, List.setIfInBounds_toArray, List.set_cons_zero, List.set_cons_succ, i64_w, i32_w]
              rfl
            refine pure_ (i := 1) (N := some 63) (v := ?_) (a' := ?_) #[true, true, false, false, true, false, false, false, false, false, false, false, false, false, false] rfl rfl (by kernel_rfl) (fun _ _ _ h => h) (Or.inl ⟨by rfl, ?_⟩) ?_ ?_
            rotate_left
            · intro w'
              go_simp
              with_reducible rfl
            rotate_left
            · simp only [Act.put, List.setIfInBounds_toArray, List.set_cons_zero, List.set_cons_succ, i64_w, i32_w]
              rfl
            refine pure_ (i := 2) (N := some 64) (v := ?_) (a' := ?_) #[true, true, true, false, true, false, false, false, false, false, false, false, false, false, false] rfl rfl (by kernel_rfl) (fun _ _ _ h => h) (Or.inl ⟨by rfl, ?_⟩) ?_ ?_
            rotate_left
            · intro w'
              go_simp
              with_reducible rfl
            rotate_left
            · simp only [Act.put, List.setIfInBounds_toArray, List.set_cons_zero, List.set_cons_succ, i64_w, i32_w]
              rfl
            refine take_ (i := 3) (N := some 65) (v := ?_) (a' := ?_) #[true, true, true, true, true, false, false, false, false, false, false, false, false, false, false] rfl rfl (by kernel_rfl) (fun _ _ _ h => h) (Or.inl ⟨by rfl, ?_⟩) hHeld ?_ ?_
            rotate_left
            · rintro w' ⟨s0, s1, s2, s3, s4⟩
              go_simp
              with_reducible rfl
            rotate_left
            · simp only [Act.put, List.setIfInBounds_toArray, List.set_cons_zero, List.set_cons_succ, i64_w, i32_w]
              rfl
            refine pure_ (i := 5) (N := some 67) (v := ?_) (a' := ?_) #[true, true, true, true, true, true, false, false, false, false, false, false, false, false, false] rfl rfl (by kernel_rfl) (fun _ _ _ h => h) (Or.inl ⟨by rfl, ?_⟩) ?_ ?_
            rotate_left
            · intro w'
              go_simp
              with_reducible rfl
            rotate_left
            · simp only [Act.put, List.setIfInBounds_toArray, List.set_cons_zero, List.set_cons_succ, i64_w, i32_w]
              rfl
            refine take_ (i := 6) (N := some 68) (v := ?_) (a' := ?_) #[true, true, true, true, true, true, true, false, false, false, false, false, false, false, false] rfl rfl (by kernel_rfl) (fun _ _ _ h => h) (Or.inl ⟨by rfl, ?_⟩) hHeld ?_ ?_
            rotate_left
            · rintro w' ⟨s0, s1, s2, s3, s4⟩
              go_simp
              with_reducible rfl
            rotate_left
            · simp only [Act.put, List.setIfInBounds_toArray, List.set_cons_zero, List.set_cons_succ, i64_w, i32_w]
              rfl
            refine take_ (i := 7) (N := some 69) (v := ?_) (a' := ?_) #[true, true, true, true, true, true, true, true, false, false, false, false, false, false, false] rfl rfl (by kernel_rfl) (fun _ _ _ h => h) (Or.inl ⟨by rfl, ?_⟩) hHeld ?_ ?_
            rotate_left
            · rintro w' ⟨s0, s1, s2, s3, s4⟩
              go_simp
              with_reducible rfl
            rotate_left
            · simp only [Act.put, List.setIfInBounds_toArray, List.set_cons_zero, List.set_cons_succ, i64_w, i32_w]
              rfl
            refine pure_ (i := 8) (N := some 70) (v := ?_) (a' := ?_) #[true, true, true, true, true, true, true, true, true, false, false, false, false, false, false] rfl rfl (by kernel_rfl) (fun _ _ _ h => h) (Or.inl ⟨by rfl, ?_⟩) ?_ ?_
            rotate_left
            · intro w'
              go_simp
              with_reducible rfl
            rotate_left
            · simp only [Act.put, List.setIfInBounds_toArray, List.set_cons_zero, List.set_cons_succ, i64_w, i32_w]
              rfl
            refine pure_ (i := 9) (N := some 71) (v := ?_) (a' := ?_) #[true, true, true, true, true, true, true, true, true, true, false, false, false, false, false] rfl rfl (by kernel_rfl) (fun _ _ _ h => h) (Or.inl ⟨by rfl, ?_⟩) ?_ ?_
            rotate_left
            · intro w'
              go_simp
              with_reducible rfl
            rotate_left
            · simp only [Act.put, List.setIfInBounds_toArray, List.set_cons_zero, List.set_cons_succ, i64_w, i32_w]
              rfl
            refine take_ (i := 10) (N := some 72) (v := ?_) (a' := ?_) #[true, true, true, true, true, true, true, true, true, true, true, false, false, false, false] rfl rfl (by kernel_rfl) (fun _ _ _ h => h) (Or.inl ⟨by rfl, ?_⟩) hHeld ?_ ?_
            rotate_left
            · rintro w' ⟨s0, s1, s2, s3, s4⟩
              go_simp
              with_reducible rfl
            rotate_left
            · simp only [Act.put, List.setIfInBounds_toArray, List.set_cons_zero, List.set_cons_succ, i64_w, i32_w]
              rfl
            refine take_ (i := 11) (N := some 73) (v := ?_) (a' := ?_) #[true, true, true, true, true, true, true, true, true, true, true, true, false, false, false] rfl rfl (by kernel_rfl) (fun _ _ _ h => h) (Or.inl ⟨by rfl, ?_⟩) hHeld ?_ ?_
            rotate_left
            · rintro w' ⟨s0, s1, s2, s3, s4⟩
              go_simp
              with_reducible rfl
            rotate_left
            · simp only [Act.put, List.setIfInBounds_toArray, List.set_cons_zero, List.set_cons_succ, i64_w, i32_w]
              rfl
            refine pure_ (i := 12) (N := some 74) (v := ?_) (a' := ?_) #[true, true, true, true, true, true, true, true, true, true, true, true, true, false, false] rfl rfl (by kernel_rfl) (fun _ _ _ h => h) (Or.inl ⟨by rfl, ?_⟩) ?_ ?_
            rotate_left
            · intro w'
              go_simp
              with_reducible rfl
            rotate_left
            · simp only [Act.put, List.setIfInBounds_toArray, List.set_cons_zero, List.set_cons_succ, i64_w, i32_w]
              rfl
            refine take_ (i := 13) (N := some 75) (v := ?_) (a' := ?_) #[true, true, true, true, true, true, true, true, true, true, true, true, true, true, false] rfl rfl (by kernel_rfl) (fun _ _ _ h => h) (Or.inl ⟨by rfl, ?_⟩) hHeld ?_ ?_
            rotate_left
            · rintro w' ⟨s0, s1, s2, s3, s4⟩
              go_simp
              with_reducible rfl
            rotate_left
            · simp only [Act.put, List.setIfInBounds_toArray, List.set_cons_zero, List.set_cons_succ, i64_w, i32_w]
              rfl
            refine pure_ (i := 14) (N := some 76) (v := ?_) (a' := ?_) #[true, true, true, true, true, true, true, true, true, true, true, true, true, true, true] rfl rfl (by kernel_rfl) (fun _ _ _ h => h) (Or.inl ⟨by rfl, ?_⟩) ?_ ?_
            rotate_left
            · intro w'
              go_simp
              with_reducible rfl
            rotate_left
            · simp only [Act.put, List.setIfInBounds_toArray, List.set_cons_zero, List.set_cons_succ, i64_w, i32_w]
              rfl
            refine done_ (by kernel_rfl) ?_
            
            have HBD : Aside0 (HB w cb b false W.drew) := ⟨⟨HB0.out.b0, HB0.out.b1, HB0.out.b2, HB0.out.b3, HB0.out.bel.drew⟩⟩
            have ED : Aside0 (W.drew.heap = W.heap) := ⟨rfl⟩
            clear hHeld y0 y1 y2 q1 q2
            generalize W.drew = Wd at HBD ED ⊢
            by_cases hv : v1 = v2
            · have hbe : (v1 == v2) = true := by simp [hv]
              have z2 : Wd.cell? ⟨w.heap.size + 1 + 1, 0, none⟩ = some (.bool false) := (blk_cell HBD.out.b2 0).trans rfl
              have f2 : Wd.frozen? ⟨w.heap.size + 1 + 1, 0, none⟩ = false := blk_frozen HBD.out.b2 0
              gi_wp2
              refine ⟨⟨?_, fun k hk1 hk2 => ?_⟩, rfl, HBD.out.store true, x, by simp, SI.out.1 hv⟩
              · rw [← ED.out]; simp
              · rw [← ED.out]; exact Below.heap_setCell Wd ⟨w.heap.size + 1 + 1, 0, none⟩ _ k (by rw [S4.out] at hk1; show k ≠ w.heap.size + 1 + 1; omega)
            · have hbe : (v1 == v2) = false := by simp [hv]
              gi_wp2
              refine ⟨⟨by rw [ED.out]; exact Nat.le_refl _, by rw [ED.out], fun k _ _ => by rw [ED.out]⟩, HBD.out, fun y hy => ?_⟩
              rcases List.mem_append.1 hy with hy | hy
              · exact HP0.out y hy
              · rw [List.mem_singleton.1 hy]; exact fun hs => hv (SI.out.2 hs)
          case done =>
            rintro D p W hD rfl ⟨hB, hp⟩ hK
            have EF : Aside0 (heapM l a b = false) := ⟨by
              rw [Bool.eq_false_iff]
              intro h
              obtain ⟨x, hx, hs⟩ := (heapM_rows ha' hb' (by omega) (by omega)).1 h
              exact hp x hx hs⟩
            have z2 : W.cell? ⟨w.heap.size + 1 + 1, 0, none⟩ = some (.bool false) := (blk_cell hB.b2 0).trans rfl
            have f2 : W.frozen? ⟨w.heap.size + 1 + 1, 0, none⟩ = false := blk_frozen hB.b2 0
            gi_wp2
            have hB2 := hB.store false
            have hK2 : (W.setCell ⟨w.heap.size + 1 + 1, 0, none⟩ (.bool false)).heap[D]? = some (.deferred (some [])) := (Below.heap_setCell W ⟨w.heap.size + 1 + 1, 0, none⟩ _ D (by rw [S4.out] at hD; show D ≠ w.heap.size + 1 + 1; omega)).trans hK
            have hE := hB2.put D (.deferred none) (by rw [S4.out] at hD; omega) (blk_lt' hK2)
            have zc : ((W.setCell ⟨w.heap.size + 1 + 1, 0, none⟩ (.bool false)).putObj D (.deferred none)).cell? ⟨w.heap.size + 1 + 1, 0, none⟩ = some (.bool false) := (blk_cell hE.b2 0).trans rfl
            refine ⟨by simp, .inl ⟨_, _, rfl, run_takeDeferred hK2, ?_⟩⟩
            refine ⟨.bool false, ?_, by rw [EF.out], hE.bel⟩
            rw [results_cell1 rfl]
            go_simp
          case stop =>
            rintro D c p W hD ⟨t, ht⟩ ⟨rfl, hB, x, hx, hs⟩ hK
            gi_wp2
            have EF : Aside0 (heapM l a b = true) := ⟨(heapM_rows ha' hb' (by omega) (by omega)).2 ⟨x, by rw [← ht]; exact List.mem_append_left _ hx, hs⟩⟩
            have hE := hB.put D (.deferred none) (by rw [S4.out] at hD; omega) (blk_lt' hK)
            have zc : (W.putObj D (.deferred none)).cell? ⟨w.heap.size + 1 + 1, 0, none⟩ = some (.bool true) := (blk_cell hE.b2 0).trans rfl
            refine ⟨by simp, .inl ⟨_, _, rfl, run_takeDeferred hK, ?_⟩⟩
            refine ⟨.bool true, ?_, by rw [EF.out], hE.bel⟩
            rw [results_cell1 rfl]
            go_simp
    · have EM : Aside0 (heapM l a b = false) := ⟨heapM_no (fun h => hb h.2)⟩
      have fb : isM l b = false := by simpa using hb
      have K1 := sis_calls l cb a _ C0.out
      have K2 := sis_calls l cb b _ C0.out
      rw [ha] at K1
      rw [fb] at K2
      clear ha hb fb
      go_enter Tryd.func54, Tryd.ntmps54
      go_wp2_with (first | ((with_reducible refine K1.mono ?_); rintro e w1 ⟨rfl, rfl⟩) | ((with_reducible refine K2.mono ?_); rintro e w1 ⟨rfl, rfl⟩))
      refine bodyPost_ret (v := .bool false) ?_ rfl ?_
      · rw [results_cell1 rfl]; go_simp
      · exact ⟨by rw [EM.out], HOUT.out false⟩
  · have EM : Aside0 (heapM l a b = false) := ⟨heapM_no (fun h => ha h.1)⟩
    have fa : isM l a = false := by simpa using ha
    have K1 := sis_calls l cb a _ C0.out
    rw [fa] at K1
    clear ha fa
    go_enter Tryd.func54, Tryd.ntmps54
    go_wp2_with ((with_reducible refine K1.mono ?_); rintro e w1 ⟨rfl, rfl⟩)
    refine bodyPost_ret (v := .bool false) ?_ rfl ?_
    · rw [results_cell1 rfl]; go_simp
    · exact ⟨by rw [EM.out], HOUT.out false⟩
end Go.Proofs.YtfgglniigeagdaaDoor.Cn
namespace Go.Proofs.YtfgglniigeagdaaDoor.QD
open Go.RowKit Go.Proofs.YtfgglniigeagdaaDoorW.PrintWords Go.Proofs.YtfgglniigeagdaaDoorW.PrintLast Go.Proofs.YtfgglniigeagdaaDoorW.PrintMore
attribute [local go_sem] max2_int min2_int max_two min_two max_three min_three max_four min_four 
set_option linter.unusedVariables false
set_option linter.unusedSimpArgs false
def ratchetref07_abstract.j0 : Nat → Int → Int → Bool → Option (Bool)
  | 0, _, _, _ => none
  | k + 1, x0, x8, x45 => if x45 = true then (some (x0 == (-10))) else (if x8 = (-1) then (some (x0 == (-2))) else (if x8 = (-3) then (some (x0 == (-4))) else (if x8 = (-11) then (some (x0 == (-12))) else (some false))))
def ratchetref07_abstract.f (k : Nat) (a0 : Int) (a1 : Int) : Option (Bool) := if a0 = a1 then (some true) else (if a1 = (-5) then (if a0 = (-6) then (some true) else (if a0 = (-7) then (some true) else (if a0 = (-8) then (some true) else (if a0 = (-9) then (some true) else (some (a0 == (-10))))))) else (if a1 = (-6) then (if a0 = (-7) then (some true) else (if a0 = (-8) then (some true) else (if a0 = (-9) then (some true) else (some (a0 == (-10)))))) else (if a1 = (-7) then (ratchetref07_abstract.j0 k a0 a1 (a1 == (-7))) else (if a1 = (-8) then (ratchetref07_abstract.j0 k a0 a1 (a1 == (-8))) else (ratchetref07_abstract.j0 k a0 a1 (a1 == (-9)))))))
theorem ratchetref07_abstract.mono_l : ∀ k, (∀ y0 y1 y2, LeO (ratchetref07_abstract.j0 k y0 y1 y2) (ratchetref07_abstract.j0 (k + 1) y0 y1 y2))
  | 0 => fun _ _ _ r h => by simp [ratchetref07_abstract.j0] at h
  | k + 1 => by
    have ih0 := ratchetref07_abstract.mono_l k
    · intro y0 y1 y2
      unfold ratchetref07_abstract.j0
      repeat' first
      | (with_reducible exact ih0 _ _ _)
      | (with_reducible exact LeO.refl _)
      | (with_reducible exact LeO.none _)
      | (with_reducible refine LeO.ite ?_ ?_)
      | (with_reducible refine LeO.bind ?_ (fun _ => ?_))
      | exact ih0 _ _ _
      | exact LeO.none _
      | refine LeO.ite ?_ ?_
      | refine LeO.bind ?_ (fun _ => ?_)
theorem ratchetref07_abstract.mono : ∀ a0 a1 k, LeO (ratchetref07_abstract.f k a0 a1) (ratchetref07_abstract.f (k + 1) a0 a1) := by
  intro a0 a1 k
  have ih0 := ratchetref07_abstract.mono_l k
  unfold ratchetref07_abstract.f
  repeat' first
      | (with_reducible exact ih0 _ _ _)
      | (with_reducible exact LeO.refl _)
      | (with_reducible exact LeO.none _)
      | (with_reducible refine LeO.ite ?_ ?_)
      | (with_reducible refine LeO.bind ?_ (fun _ => ?_))
      | exact ih0 _ _ _
      | exact LeO.none _
      | refine LeO.ite ?_ ?_
      | refine LeO.bind ?_ (fun _ => ?_)
set_option maxHeartbeats 8000000 in
set_option maxRecDepth 100000 in
theorem ratchetref07_abstract.calls (k : Nat) (a0 : Int) (a1 : Int) (r : Bool) (w : World) (h : ratchetref07_abstract.f k a0 a1 = some r) :
    Calls Tryd.prog 111 #[.int .i64 a0, .int .i64 a1] w fun e w' => e = .returned (.bool r) ∧ Drawn0 w w' := by
  have H : (if a0 = a1 then (some true) else (if a1 = (-5) then (if a0 = (-6) then (some true) else (if a0 = (-7) then (some true) else (if a0 = (-8) then (some true) else (if a0 = (-9) then (some true) else (some (a0 == (-10))))))) else (if a1 = (-6) then (if a0 = (-7) then (some true) else (if a0 = (-8) then (some true) else (if a0 = (-9) then (some true) else (some (a0 == (-10)))))) else (if a1 = (-7) then (ratchetref07_abstract.j0 k a0 a1 (a1 == (-7))) else (if a1 = (-8) then (ratchetref07_abstract.j0 k a0 a1 (a1 == (-8))) else (ratchetref07_abstract.j0 k a0 a1 (a1 == (-9)))))))) = some r := h
  clear h
  by_cases c3 : a0 = a1
  · rw [if_pos c3] at H
    have c3b0 : (a0 == a1) = true := beq_iff_eq.mpr c3
    have c3b1 : (a0 != a1) = false := bne_eq_false_iff_eq.mpr c3
    clear c3
    obtain rfl := Option.some.inj H
    go_enter Tryd.func111, Tryd.ntmps111
    go_wp2
    go_ret
    exact ⟨by first | rfl | (simp; done) | (simp [*]; done), by repeat (first | exact Drawn0.refl _ | apply Drawn0.step)⟩
  · rw [if_neg c3] at H
    have c3b0 : (a0 == a1) = false := beq_eq_false_iff_ne.mpr c3
    have c3b1 : (a0 != a1) = true := bne_iff_ne.mpr c3
    by_cases c4 : a1 = (-5)
    · rw [if_pos c4] at H
      have c4b0 : (a1 == (-5)) = true := beq_iff_eq.mpr c4
      have c4b1 : (a1 != (-5)) = false := bne_eq_false_iff_eq.mpr c4
      clear c4
      by_cases c5 : a0 = (-6)
      · rw [if_pos c5] at H
        have c5b0 : (a0 == (-6)) = true := beq_iff_eq.mpr c5
        have c5b1 : (a0 != (-6)) = false := bne_eq_false_iff_eq.mpr c5
        clear c5
        obtain rfl := Option.some.inj H
        go_enter Tryd.func111, Tryd.ntmps111
        go_wp2
        go_ret
        exact ⟨by first | rfl | (simp; done) | (simp [*]; done), by repeat (first | exact Drawn0.refl _ | apply Drawn0.step)⟩
      · rw [if_neg c5] at H
        have c5b0 : (a0 == (-6)) = false := beq_eq_false_iff_ne.mpr c5
        have c5b1 : (a0 != (-6)) = true := bne_iff_ne.mpr c5
        by_cases c6 : a0 = (-7)
        · rw [if_pos c6] at H
          have c6b0 : (a0 == (-7)) = true := beq_iff_eq.mpr c6
          have c6b1 : (a0 != (-7)) = false := bne_eq_false_iff_eq.mpr c6
          clear c6
          obtain rfl := Option.some.inj H
          go_enter Tryd.func111, Tryd.ntmps111
          go_wp2
          go_ret
          exact ⟨by first | rfl | (simp; done) | (simp [*]; done), by repeat (first | exact Drawn0.refl _ | apply Drawn0.step)⟩
        · rw [if_neg c6] at H
          have c6b0 : (a0 == (-7)) = false := beq_eq_false_iff_ne.mpr c6
          have c6b1 : (a0 != (-7)) = true := bne_iff_ne.mpr c6
          by_cases c7 : a0 = (-8)
          · rw [if_pos c7] at H
            have c7b0 : (a0 == (-8)) = true := beq_iff_eq.mpr c7
            have c7b1 : (a0 != (-8)) = false := bne_eq_false_iff_eq.mpr c7
            clear c7
            obtain rfl := Option.some.inj H
            go_enter Tryd.func111, Tryd.ntmps111
            go_wp2
            go_ret
            exact ⟨by first | rfl | (simp; done) | (simp [*]; done), by repeat (first | exact Drawn0.refl _ | apply Drawn0.step)⟩
          · rw [if_neg c7] at H
            have c7b0 : (a0 == (-8)) = false := beq_eq_false_iff_ne.mpr c7
            have c7b1 : (a0 != (-8)) = true := bne_iff_ne.mpr c7
            by_cases c8 : a0 = (-9)
            · rw [if_pos c8] at H
              have c8b0 : (a0 == (-9)) = true := beq_iff_eq.mpr c8
              have c8b1 : (a0 != (-9)) = false := bne_eq_false_iff_eq.mpr c8
              clear c8
              obtain rfl := Option.some.inj H
              go_enter Tryd.func111, Tryd.ntmps111
              go_wp2
              go_ret
              exact ⟨by first | rfl | (simp; done) | (simp [*]; done), by repeat (first | exact Drawn0.refl _ | apply Drawn0.step)⟩
            · rw [if_neg c8] at H
              have c8b0 : (a0 == (-9)) = false := beq_eq_false_iff_ne.mpr c8
              have c8b1 : (a0 != (-9)) = true := bne_iff_ne.mpr c8
              obtain rfl := Option.some.inj H
              go_enter Tryd.func111, Tryd.ntmps111
              go_wp2
              go_ret
              exact ⟨by first | rfl | (simp; done) | (simp [*]; done), by repeat (first | exact Drawn0.refl _ | apply Drawn0.step)⟩
    · rw [if_neg c4] at H
      have c4b0 : (a1 == (-5)) = false := beq_eq_false_iff_ne.mpr c4
      have c4b1 : (a1 != (-5)) = true := bne_iff_ne.mpr c4
      by_cases c9 : a1 = (-6)
      · rw [if_pos c9] at H
        have c9b0 : (a1 == (-6)) = true := beq_iff_eq.mpr c9
        have c9b1 : (a1 != (-6)) = false := bne_eq_false_iff_eq.mpr c9
        clear c9
        by_cases c10 : a0 = (-7)
        · rw [if_pos c10] at H
          have c10b0 : (a0 == (-7)) = true := beq_iff_eq.mpr c10
          have c10b1 : (a0 != (-7)) = false := bne_eq_false_iff_eq.mpr c10
          clear c10
          obtain rfl := Option.some.inj H
          go_enter Tryd.func111, Tryd.ntmps111
          go_wp2
          go_ret
          exact ⟨by first | rfl | (simp; done) | (simp [*]; done), by repeat (first | exact Drawn0.refl _ | apply Drawn0.step)⟩
        · rw [if_neg c10] at H
          have c10b0 : (a0 == (-7)) = false := beq_eq_false_iff_ne.mpr c10
          have c10b1 : (a0 != (-7)) = true := bne_iff_ne.mpr c10
          by_cases c11 : a0 = (-8)
          · rw [if_pos c11] at H
            have c11b0 : (a0 == (-8)) = true := beq_iff_eq.mpr c11
            have c11b1 : (a0 != (-8)) = false := bne_eq_false_iff_eq.mpr c11
            clear c11
            obtain rfl := Option.some.inj H
            go_enter Tryd.func111, Tryd.ntmps111
            go_wp2
            go_ret
            exact ⟨by first | rfl | (simp; done) | (simp [*]; done), by repeat (first | exact Drawn0.refl _ | apply Drawn0.step)⟩
          · rw [if_neg c11] at H
            have c11b0 : (a0 == (-8)) = false := beq_eq_false_iff_ne.mpr c11
            have c11b1 : (a0 != (-8)) = true := bne_iff_ne.mpr c11
            by_cases c12 : a0 = (-9)
            · rw [if_pos c12] at H
              have c12b0 : (a0 == (-9)) = true := beq_iff_eq.mpr c12
              have c12b1 : (a0 != (-9)) = false := bne_eq_false_iff_eq.mpr c12
              clear c12
              obtain rfl := Option.some.inj H
              go_enter Tryd.func111, Tryd.ntmps111
              go_wp2
              go_ret
              exact ⟨by first | rfl | (simp; done) | (simp [*]; done), by repeat (first | exact Drawn0.refl _ | apply Drawn0.step)⟩
            · rw [if_neg c12] at H
              have c12b0 : (a0 == (-9)) = false := beq_eq_false_iff_ne.mpr c12
              have c12b1 : (a0 != (-9)) = true := bne_iff_ne.mpr c12
              obtain rfl := Option.some.inj H
              go_enter Tryd.func111, Tryd.ntmps111
              go_wp2
              go_ret
              exact ⟨by first | rfl | (simp; done) | (simp [*]; done), by repeat (first | exact Drawn0.refl _ | apply Drawn0.step)⟩
      · rw [if_neg c9] at H
        have c9b0 : (a1 == (-6)) = false := beq_eq_false_iff_ne.mpr c9
        have c9b1 : (a1 != (-6)) = true := bne_iff_ne.mpr c9
        have HC13 := Aside0.mk H
        clear H
        go_enter Tryd.func111, Tryd.ntmps111
        go_upto_if 45 with (fail)
        go_cut [45] (fun v45 wc => ∃ (kq : Nat) (x45_12 : Bool), v45 = .bool x45_12 ∧ Aside0 (ratchetref07_abstract.j0 kq a0 a1 x45_12 = some r) ∧ Aside0 (kq ≤ k) ∧ Drawn0 w wc)
        case first =>
          have H := HC13.out
          clear HC13
          by_cases c14 : a1 = (-7)
          · rw [if_pos c14] at H
            have c14b0 : (a1 == (-7)) = true := beq_iff_eq.mpr c14
            have c14b1 : (a1 != (-7)) = false := bne_eq_false_iff_eq.mpr c14
            clear c14
            (first | rw [c14b0] | (simp only [i64_w, i32_w]; rw [c14b0]) | skip)
            have H' := Aside0.mk H
            clear H
            go_wp2
            go_meet
            case rel => exact ⟨_, ((a1 == (-7))), (by first | rfl | (simp; done) | (simp [*]; done)), H', ⟨by first | omega | exact Nat.le_refl _⟩, by repeat (first | exact Drawn0.refl _ | apply Drawn0.step)⟩
          · rw [if_neg c14] at H
            have c14b0 : (a1 == (-7)) = false := beq_eq_false_iff_ne.mpr c14
            have c14b1 : (a1 != (-7)) = true := bne_iff_ne.mpr c14
            (first | rw [c14b0] | (simp only [i64_w, i32_w]; rw [c14b0]) | skip)
            by_cases c15 : a1 = (-8)
            · rw [if_pos c15] at H
              have c15b0 : (a1 == (-8)) = true := beq_iff_eq.mpr c15
              have c15b1 : (a1 != (-8)) = false := bne_eq_false_iff_eq.mpr c15
              clear c15
              have H' := Aside0.mk H
              clear H
              go_wp2
              go_meet
              case rel => exact ⟨_, ((a1 == (-8))), (by first | rfl | (simp; done) | (simp [*]; done)), H', ⟨by first | omega | exact Nat.le_refl _⟩, by repeat (first | exact Drawn0.refl _ | apply Drawn0.step)⟩
            · rw [if_neg c15] at H
              have c15b0 : (a1 == (-8)) = false := beq_eq_false_iff_ne.mpr c15
              have c15b1 : (a1 != (-8)) = true := bne_iff_ne.mpr c15
              have H' := Aside0.mk H
              clear H
              go_wp2
              go_meet
              case rel => exact ⟨_, ((a1 == (-9))), (by first | rfl | (simp; done) | (simp [*]; done)), H', ⟨by first | omega | exact Nat.le_refl _⟩, by repeat (first | exact Drawn0.refl _ | apply Drawn0.step)⟩
        case rest =>
          clear HC13
          try clear c1
          try clear p2
          try clear c3
          try clear c3b0
          try clear c3b1
          try clear c4
          try clear c4b0
          try clear c4b1
          try clear c5
          try clear c5b0
          try clear c5b1
          try clear c6
          try clear c6b0
          try clear c6b1
          try clear c7
          try clear c7b0
          try clear c7b1
          try clear c8
          try clear c8b0
          try clear c8b1
          try clear c9
          try clear c9b0
          try clear c9b1
          try clear c10
          try clear c10b0
          try clear c10b1
          try clear c11
          try clear c11b0
          try clear c11b1
          try clear c12
          try clear c12b0
          try clear c12b1
          try clear c14
          try clear c14b0
          try clear c14b1
          try clear c15
          try clear c15b0
          try clear c15b1
          obtain ⟨kq, x45_12, rfl, HA, HJ12, ⟨mc12, rfl⟩⟩ := hcut
          cases kq with
          | zero => exact absurd HA.out (by simp [ratchetref07_abstract.j0])
          | succ kj12 =>
            have H := HA.out
            clear HA
            simp only [ratchetref07_abstract.j0] at H
            by_cases c16 : x45_12 = true
            · subst c16
              have H1 : (some (a0 == (-10))) = some r := by rw [if_pos rfl] at H; exact H
              clear H
              have H := H1
              clear H1
              obtain rfl := Option.some.inj H
              go_wp2
              go_ret
              exact ⟨by first | rfl | (simp; done) | (simp [*]; done), by repeat (first | exact Drawn0.refl _ | apply Drawn0.step)⟩
            · replace c16 := Bool.eq_false_iff.mpr c16
              subst c16
              have H1 : (if a1 = (-1) then (some (a0 == (-2))) else (if a1 = (-3) then (some (a0 == (-4))) else (if a1 = (-11) then (some (a0 == (-12))) else (some false)))) = some r := by rw [if_neg (show ¬ (false = true) by decide)] at H; exact H
              clear H
              have H := H1
              clear H1
              by_cases c17 : a1 = (-1)
              · rw [if_pos c17] at H
                have c17b0 : (a1 == (-1)) = true := beq_iff_eq.mpr c17
                have c17b1 : (a1 != (-1)) = false := bne_eq_false_iff_eq.mpr c17
                clear c17
                obtain rfl := Option.some.inj H
                go_wp2
                go_ret
                exact ⟨by first | rfl | (simp; done) | (simp [*]; done), by repeat (first | exact Drawn0.refl _ | apply Drawn0.step)⟩
              · rw [if_neg c17] at H
                have c17b0 : (a1 == (-1)) = false := beq_eq_false_iff_ne.mpr c17
                have c17b1 : (a1 != (-1)) = true := bne_iff_ne.mpr c17
                by_cases c18 : a1 = (-3)
                · rw [if_pos c18] at H
                  have c18b0 : (a1 == (-3)) = true := beq_iff_eq.mpr c18
                  have c18b1 : (a1 != (-3)) = false := bne_eq_false_iff_eq.mpr c18
                  clear c18
                  obtain rfl := Option.some.inj H
                  go_wp2
                  go_ret
                  exact ⟨by first | rfl | (simp; done) | (simp [*]; done), by repeat (first | exact Drawn0.refl _ | apply Drawn0.step)⟩
                · rw [if_neg c18] at H
                  have c18b0 : (a1 == (-3)) = false := beq_eq_false_iff_ne.mpr c18
                  have c18b1 : (a1 != (-3)) = true := bne_iff_ne.mpr c18
                  by_cases c19 : a1 = (-11)
                  · rw [if_pos c19] at H
                    have c19b0 : (a1 == (-11)) = true := beq_iff_eq.mpr c19
                    have c19b1 : (a1 != (-11)) = false := bne_eq_false_iff_eq.mpr c19
                    clear c19
                    obtain rfl := Option.some.inj H
                    go_wp2
                    go_ret
                    exact ⟨by first | rfl | (simp; done) | (simp [*]; done), by repeat (first | exact Drawn0.refl _ | apply Drawn0.step)⟩
                  · rw [if_neg c19] at H
                    have c19b0 : (a1 == (-11)) = false := beq_eq_false_iff_ne.mpr c19
                    have c19b1 : (a1 != (-11)) = true := bne_iff_ne.mpr c19
                    obtain rfl := Option.some.inj H
                    go_wp2
                    go_ret
                    exact ⟨by first | rfl | (simp; done) | (simp [*]; done), by repeat (first | exact Drawn0.refl _ | apply Drawn0.step)⟩
end Go.Proofs.YtfgglniigeagdaaDoor.QD
namespace Go.Proofs.YtfgglniigeagdaaDoor.Cn
set_option linter.unusedSimpArgs false
set_option linter.unusedVariables false
open Go.RowKit Go.Maps Go.Proofs.YtfgglniigeagdaaDoorW.PrintWords Go.Proofs.YtfgglniigeagdaaDoorW.PrintLast Go.Proofs.YtfgglniigeagdaaDoorW.PrintMore Go.Proofs.YtfgglniigeagdaaDoor.QD
set_option maxRecDepth 100000 in
theorem SHeap_yes (A : Option Addr) (c : Nat) (l : List S62) (a b : Int) (w : World) (hl : LA w A c l) (hc : Clo l) (htab : Lib.TabBelow Tryd.prog w.heap.size w "internal/strconv.uint64pow10" .u64 Lib.pow10Tab) :
    Calls Tryd.prog 31 #[.slice A l.length c, .int .i64 a, .int .i64 b] w fun e w' => e = .returned (.bool (heapM l a b)) ∧ Below w.heap.size w w' := by
  have K := opened_calls A c l w hl htab
  have HC := Aside0.mk hc
  have hw := hl.w
  have htc := tcount_le_wL l
  have HF : Aside0 ((flat l).length ≤ 1048576) := ⟨by rw [flat_length]; omega⟩
  clear hl hc htab hw htc
  go_enter Tryd.func31, Tryd.ntmps31
  go_wp2_with fail
  refine K.mono ?_
  rintro e w1 ⟨hb, ⟨_, rfl, hx⟩ | ⟨hn, _⟩⟩
  rotate_left
  · exact absurd HC.out hn
  have B1 := Aside0.mk hb
  have X1 := Aside0.mk hx
  clear hb hx K
  go_wp2_with fail
  refine (sheap_calls l HC.out w.heap.size a b w1 X1.out HF.out).mono ?_
  rintro e w2 ⟨rfl, hb⟩
  have B2 := Aside0.mk (B1.out.trans (hb.mono B1.out.size))
  clear hb
  go_wp2_with fail
  go_ret
  exact ⟨rfl, B2.out⟩
theorem LA.nil (w : World) : LA w none 0 [] := ⟨Kd.C_nil _ _, Nat.le_refl _, (fun r hr => (by cases hr)), by simp [wL]⟩
theorem clo_nil : Clo ([] : List S62) := fun j r h => by simp at h
set_option maxRecDepth 100000 in
theorem awake_calls (w : World) (htab : Lib.TabBelow Tryd.prog w.heap.size w "internal/strconv.uint64pow10" .u64 Lib.pow10Tab) : Calls Tryd.prog 30 #[] w fun e w' => e = .returned (.bool true) ∧ Below w.heap.size w w' := by
  have HT := Aside0.mk htab
  have K1 := SHeap_yes none 0 [] (-10) (-6) w (LA.nil w) clo_nil htab
  have e1 : heapM [] (-10) (-6) = true := by simp [heapM, isM, absM, famH, flat]
  have e2 : heapM [] (-6) (-7) = false := by simp [heapM, isM, absM, absL, upH, flat]
  rw [e1] at K1
  clear htab
  go_enter Tryd.func30, Tryd.ntmps30
  go_wp2_with fail
  refine K1.mono ?_
  rintro e w1 ⟨rfl, hb⟩
  have B1 := Aside0.mk hb
  clear hb K1
  go_wp2_with fail
  have K2 := SHeap_yes none 0 [] (-6) (-7) w1 (LA.nil w1) clo_nil (tab_mono (HT.out.on B1.out) B1.out.size)
  rw [e2] at K2
  refine K2.mono ?_
  rintro e w2 ⟨rfl, hb⟩
  have B2 := Aside0.mk (B1.out.trans (hb.mono B1.out.size))
  clear hb K2
  go_wp2_with fail
  go_ret
  exact ⟨rfl, B2.out⟩
theorem r5Count_calls (A : Option Addr) (c : Nat) (l : List S62) (w : World) (hl : LA w A c l) : Calls Tryd.prog 29 #[.slice A l.length c] w fun e w' => e = .returned (.int .i64 ((flat l).length : Int)) ∧ Below w.heap.size w w' := by
  have hw := hl.w
  have htc := tcount_le_wL l
  rw [flat_length]
  exact (ratchetref05_Count.calls (l.length + 1) A c l _ w hl.C hl.cap (r5count l (by omega) (by omega) _ (Nat.le_refl _))).mono fun e w' ⟨he, hb⟩ => ⟨he, hb.below⟩
set_option maxRecDepth 100000 in
theorem r7abstract_calls (a b : Int) (w : World) (a0 : -12 ≤ a) (a1 : a < 0) (b0 : -12 ≤ b) (b1 : b < 0) : Calls Tryd.prog 111 #[.int .i64 a, .int .i64 b] w fun e w' => e = .returned (.bool (absM a b)) ∧ Below w.heap.size w w' := by
  have hf : ratchetref07_abstract.f 1 a b = some (absM a b) := by
    rcases abs_cases b0 (by omega) with rfl | rfl | rfl | rfl | rfl | rfl | rfl | rfl | rfl | rfl | rfl | rfl | rfl
    · omega
    all_goals rcases abs_cases a0 (by omega) with rfl | rfl | rfl | rfl | rfl | rfl | rfl | rfl | rfl | rfl | rfl | rfl | rfl
    all_goals first
      | (exact absurd a1 (by decide))
      | rfl
      | decide
  exact (ratchetref07_abstract.calls 1 a b _ w hf).mono fun e w' ⟨he, hb⟩ => ⟨he, hb.below⟩
set_option maxRecDepth 100000 in
theorem r7one_calls (A : Option Addr) (c : Nat) (l : List S62) (x y : Int) (w : World) (hl : LA w A c l) : Calls Tryd.prog 116 #[.slice A l.length c, .int .i64 x, .int .i64 y] w fun e w' => e = .returned (.bool (oneM l l x y).1) ∧ Below w.heap.size w w' := by
  obtain ⟨b, k, h⟩ : ∃ b k, oneM l l x y = (b, k) := ⟨_, _, rfl⟩
  have K := r6Same_calls A c l x y w hl b k h
  rw [h]
  clear hl h
  go_enter Tryd.func116, Tryd.ntmps116
  go_wp2_with fail
  refine K.mono ?_
  rintro e w1 ⟨rfl, hb⟩
  have B1 := Aside0.mk hb
  clear hb K
  go_wp2_with fail
  go_ret
  exact ⟨rfl, B1.out⟩
set_option maxRecDepth 100000 in
theorem r7is_calls (A : Option Addr) (c : Nat) (l : List S62) (h : Int) (w : World) (hl : LA w A c l) : Calls Tryd.prog 104 #[.slice A l.length c, .int .i64 h] w fun e w' => e = .returned (.bool (isM l h)) ∧ Below w.heap.size w w' := by
  have K := r5Count_calls A c l w hl
  clear hl
  by_cases g : -12 ≤ h
  · go_enter Tryd.func104, Tryd.ntmps104
    go_wp2_with fail
    refine K.mono ?_
    rintro e w1 ⟨rfl, hb⟩
    have B1 := Aside0.mk hb
    clear hb K
    go_wp2_with fail
    go_ret
    exact ⟨by simp [isM, g], B1.out⟩
  · clear K
    go_enter Tryd.func104, Tryd.ntmps104
    go_wp2_with fail
    go_ret
    exact ⟨by simp [isM]; omega, Below.refl _ _⟩
set_option maxRecDepth 100000 in
theorem r7closed_yes (A : Option Addr) (c : Nat) (l : List S62) (w : World) (hl : LA w A c l) (hc : Clo l) : Calls Tryd.prog 87 #[.slice A l.length c] w fun e w' => e = .returned (.bool true) ∧ Below w.heap.size w w' := by
  have K := closed_ref A c l w hl
  have HC := Aside0.mk hc
  clear hl hc
  go_enter Tryd.func87, Tryd.ntmps87
  go_wp2_with fail
  refine K.mono ?_
  rintro e w1 ⟨⟨n, er, rfl, ho⟩, hb⟩
  obtain ⟨rfl, rfl⟩ := ho.yes HC.out
  have B1 := Aside0.mk hb
  clear hb K ho
  go_wp2_with fail
  go_ret
  exact ⟨rfl, B1.out⟩
end Go.Proofs.YtfgglniigeagdaaDoor.Cn
namespace Go.Proofs.YtfgglniigeagdaaDoor.Cn
set_option linter.unusedSimpArgs false
set_option linter.unusedVariables false
open Go.RowKit Go.Maps Go.Proofs.YtfgglniigeagdaaDoorW.PrintWords Go.Proofs.YtfgglniigeagdaaDoorW.PrintLast Go.Proofs.YtfgglniigeagdaaDoorW.PrintMore Go.Proofs.YtfgglniigeagdaaDoor.QD
theorem results_cell_t3 {P : Program} {fn : Func} {p u v x : Tmp} {ty : TypeId} (h : fn.results = #[.cell p ty, .tmp u, .tmp v, .tmp x]) (tmps : Array Value) (w : World) (g : Nat) (cs : Array Value)
    (hp : tmps.getD p undef = .pointer (some ⟨g, 0, none⟩)) (hl : (loadVar ty ⟨g, 0, none⟩).run P w = .ok (.agg cs) w) :
    (results fn tmps).run P w = .ok (.tuple #[.agg cs, tmps.getD u undef, tmps.getD v undef, tmps.getD x undef]) w := by
  have hp' : tmps[p]?.getD undef = .pointer (some ⟨g, 0, none⟩) := by simpa using hp
  simp [results, h, hp', asAddr, hl, Sem.run_bind, Result.andThen]
/-- A type's cells, in memory of others. -/
def TyIn (w : World) (s : S53) (A1 : Option Addr) (c1 : Nat) (A3 : Option Addr) (c3 : Nat) (A4 : Option Addr) (c4 : Nat) (A5 : Option Addr) (c5 : Nat) : Prop :=
  k53.K w s [.bool s.f0, .slice A1 s.f1.length c1, .int .i64 s.f2.f0, .slice A3 s.f2.f1.length c3, .slice A4 s.f2.f2.length c4, .slice A5 s.f2.f3.length c5]
set_option maxRecDepth 100000 in
set_option maxHeartbeats 8000000 in
theorem r5At_calls (A : Option Addr) (c : Nat) (l : List S62) (n : Int) (w : World) (hl : LA w A c l) (n0 : 0 ≤ n) (n1 : n < ((flat l).length : Int)) :
    Calls Tryd.prog 36 #[.slice A l.length c, .int .i64 n] w fun e w' => ∃ A1 c1 A3 c3 A4 c4 A5 c5 i p, e = .returned (.tuple #[.agg #[.bool (tyAt l n).f0, .slice A1 (tyAt l n).f1.length c1, .int .i64 (tyAt l n).f2.f0, .slice A3 (tyAt l n).f2.f1.length c3, .slice A4 (tyAt l n).f2.f2.length c4, .slice A5 (tyAt l n).f2.f3.length c5], .int .i64 i, .int .i64 p, .bool true]) ∧ TyIn w (tyAt l n) A1 c1 A3 c3 A4 c4 A5 c5 ∧ Below w.heap.size w w' := by
  have HL := Aside0.mk hl
  have hw := hl.w
  have htc := tcount_le_wL l
  have hfl := flat_length l
  have N0 := Aside0.mk n0
  have N1 := Aside0.mk n1
  have hll : l.length ≤ 1048576 := by omega
  have HT : Aside0 (tcount l ≤ 1048576) := ⟨by omega⟩
  have hb0 : Below w.heap.size w (w.alloc (.cells #[.bool false, .slice none 0 0, .int .i64 0, .slice none 0 0, .slice none 0 0, .slice none 0 0] 53)) := (Below.refl _ _).alloc (Nat.le_refl _) _
  have HB := Aside0.mk hb0
  clear hl hw htc hb0
  go_enter Tryd.func36, Tryd.ntmps36
  go_wp2_with fail
  clear n0 n1
  go_loopw [1, 8] (fun v i W => ∃ (j : Nat) (x : Int), i = .int .i64 j ∧ j ≤ l.length ∧ v = .int .i64 x ∧ 0 ≤ x ∧ n = (tcount (l.take j) : Int) + x ∧ W = w.alloc (.cells #[.bool false, .slice none 0 0, .int .i64 0, .slice none 0 0, .slice none 0 0, .slice none 0 0] 53)) (fun _ i _ => l.length - (intOf i).toNat)
  case atStart => exact ⟨0, n, rfl, Nat.zero_le _, rfl, N0.out, by simp [tcount], rfl⟩
  case round =>
    obtain ⟨j, x, rfl, hj, rfl, x0, hx, rfl⟩ := hrel
    have HX := Aside0.mk hx
    clear hx
    have j0 : (0 : Int) ≤ (j : Int) := Int.natCast_nonneg j
    by_cases hlj : j < l.length
    · obtain ⟨ad, Ar, cr, rfl, d0, d1, hrc, hrC⟩ := at_T62 HL.out.C (j : Int) j0 (by omega)
      have HRJ := Aside0.mk (rd_RT_at l j hlj)
      simp only [Int.toNat_natCast] at d0 d1
      obtain ⟨r, hre⟩ : ∃ r, r = rd_T62 l (j : Int) := ⟨_, rfl⟩
      rw [← hre] at d0 d1 hrc hrC HRJ
      clear hre
      replace d0 := (HB.out.cell (World.block_lt_of_cell? w _ d0)).trans d0
      have jl : (j : Int) < (l.length : Int) := by omega
      by_cases hxr : x < (r.f0.length : Int)
      · obtain ⟨ae, A1, c1, A3, c3, A4, c4, A5, c5, rfl, e0, e1, e2, e3, e4, e5, m1, r1, m3, r3, m4, r4, m5, r5⟩ := at_T53 hrC x x0 hxr
        have hty : rd_T53 r.f0 x = tyAt l n := by
          have h1 := flat_get HRJ.out (o := x.toNat) (by omega)
          have h2 : n.toNat = tcount (l.take j) + x.toNat := by have := HX.out; omega
          unfold tyAt rd_T53
          rw [List.getD_eq_getElem?_getD, List.getD_eq_getElem?_getD, h2, h1]
        rw [hty] at e0 e1 e2 e3 e4 e5 m1 r1 m3 r3 m4 r4 m5 r5
        have K := Aside0.mk (show TyIn w (tyAt l n) A1 c1 A3 c3 A4 c4 A5 c5 from k53_mk w (tyAt l n) m1 r1 m3 r3 m4 r4 m5 r5)
        obtain ⟨s, hs⟩ : ∃ s, s = tyAt l n := ⟨_, rfl⟩
        rw [← hs] at e0 e1 e2 e3 e4 e5 K
        have HS := Aside0.mk hs
        replace e0 := (HB.out.cell (World.block_lt_of_cell? w _ e0)).trans e0
        replace e1 := (HB.out.cell (World.block_lt_of_cell? w _ e1)).trans e1
        replace e2 := (HB.out.cell (World.block_lt_of_cell? w _ e2)).trans e2
        replace e3 := (HB.out.cell (World.block_lt_of_cell? w _ e3)).trans e3
        replace e4 := (HB.out.cell (World.block_lt_of_cell? w _ e4)).trans e4
        replace e5 := (HB.out.cell (World.block_lt_of_cell? w _ e5)).trans e5
        clear m1 r1 m3 r3 m4 r4 m5 r5 hs hty hrc hrC d1
        go_wp2_with fail
        refine bodyPost_ret (results_cell_t3 rfl _ _ w.heap.size #[.bool s.f0, .slice A1 s.f1.length c1, .int .i64 s.f2.f0, .slice A3 s.f2.f1.length c3, .slice A4 s.f2.f2.length c4, .slice A5 s.f2.f3.length c5] rfl (run_loadVar_row _ _ 53 53 _ (0, 0) _ (blk_new w _) Tryd.underlying53 rfl (by kernel_rfl))) rfl ?_
        rw [← HS.out]
        exact ⟨A1, c1, A3, c3, A4, c4, A5, c5, (j : Int), x, rfl, K.out, (Below.refl _ _).alloc (Nat.le_refl _) _⟩
      · have hwx : wrap64 (x - (r.f0.length : Int)) = x - r.f0.length := by
          have h1 := tcount_take_le l j r HRJ.out
          have h2 := HX.out
          have h3 := N1.out
          have h4 := HT.out
          unfold wrap64; omega
        clear d1 hrc hrC
        go_wp2_with fail
        go_roundw
        case rel => exact ⟨j + 1, x - r.f0.length, by go_num, by omega, by rw [hwx], by omega, by rw [tcount_take l j r HRJ.out]; have := HX.out; push_cast; omega, trivial⟩
        case measure => simp [intOf]; omega
    · exfalso
      obtain rfl : j = l.length := by omega
      have h1 := HX.out
      have h2 := N1.out
      rw [List.take_length] at h1
      omega
/-- At, with its type's cells named. -/
theorem TyIn.open {w : World} {s : S53} {A1 : Option Addr} {c1 : Nat} {A3 : Option Addr} {c3 : Nat} {A4 : Option Addr} {c4 : Nat} {A5 : Option Addr} {c5 : Nat} (h : TyIn w s A1 c1 A3 c3 A4 c4 A5 c5) :
    (s.f1.length ≤ c1 ∧ (Kd.int .i64).C w A1 s.f1.length s.f1) ∧ (s.f2.f1.length ≤ c3 ∧ k74.C w A3 s.f2.f1.length s.f2.f1) ∧ (s.f2.f2.length ≤ c4 ∧ k74.C w A4 s.f2.f2.length s.f2.f2) ∧ (s.f2.f3.length ≤ c5 ∧ k118.C w A5 s.f2.f3.length s.f2.f3) := by
  obtain ⟨B1, d1, B3, d3, B4, d4, B5, d5, e, l1, g1, l3, g3, l4, g4, l5, g5⟩ := k53_open h
  simp only [List.cons.injEq, Value.slice.injEq, and_true, true_and] at e
  obtain ⟨⟨rfl, rfl⟩, ⟨rfl, rfl⟩, ⟨rfl, rfl⟩, rfl, rfl⟩ := e
  exact ⟨⟨l1, g1⟩, ⟨l3, g3⟩, ⟨l4, g4⟩, l5, g5⟩
/-- What above hands back, of a type's supers. -/
def aboveV : List Int → Value
  | [] => .tuple #[.int .i64 0, .bool false]
  | y :: _ => .tuple #[.int .i64 y, .bool true]
set_option maxRecDepth 100000 in
theorem r7above_calls (A : Option Addr) (c : Nat) (l : List S62) (n : Int) (w : World) (hl : LA w A c l) (n0 : 0 ≤ n) (n1 : n < ((flat l).length : Int)) :
    Calls Tryd.prog 86 #[.slice A l.length c, .int .i64 n] w fun e w' => e = .returned (aboveV (tyAt l n).f1) ∧ Below w.heap.size w w' := by
  have K := r5At_calls A c l n w hl n0 n1
  clear hl
  go_enter Tryd.func86, Tryd.ntmps86
  go_wp2_with fail
  refine K.mono ?_
  rintro e w1 ⟨A1, c1, A3, c3, A4, c4, A5, c5, i, p, rfl, hty, hb⟩
  have B1 := Aside0.mk hb
  obtain ⟨⟨m1, r1⟩, _⟩ := hty.open
  obtain ⟨s, hs⟩ : ∃ s, s = tyAt l n := ⟨_, rfl⟩
  rw [← hs] at r1 m1 ⊢
  have HS := Aside0.mk hs
  have B2 : Aside0 (Below w.heap.size w (w1.alloc (.cells #[.bool s.f0, .slice A1 s.f1.length c1, .int .i64 s.f2.f0, .slice A3 s.f2.f1.length c3, .slice A4 s.f2.f2.length c4, .slice A5 s.f2.f3.length c5] 53))) := ⟨hb.alloc hb.size _⟩
  clear hty hs K
  rcases hz : s.f1 with _ | ⟨y, t⟩
  · rw [hz] at B2
    go_wp2_with fail
    go_ret2
    exact ⟨by first | rfl | (rw [hz]; rfl) | (rw [← HS.out, hz]; rfl), B2.out⟩
  · rw [hz] at r1 B2
    obtain ⟨ai, z, eA, hq, hcz⟩ := at_int' r1 0 (by simp)
    subst eA
    obtain rfl : y = z := by simpa using hq
    have hcz' : (w1.alloc (.cells #[.bool s.f0, .slice (some ai) (y :: t).length c1, .int .i64 s.f2.f0, .slice A3 s.f2.f1.length c3, .slice A4 s.f2.f2.length c4, .slice A5 s.f2.f3.length c5] 53)).cell? ai = some (.int .i64 y) := by
      have e_ : ai.add 0 = ai := (by simp [Addr.add])
      rw [e_] at hcz
      exact (B2.out.cell (World.block_lt_of_cell? w _ hcz)).trans hcz
    have h0l : (0 : Int) < ((y :: t).length : Int) := by simp
    have hbl : ai.block < w1.heap.size := by
      have e_ : ai.add 0 = ai := (by simp [Addr.add])
      rw [e_] at hcz
      have := World.block_lt_of_cell? w _ hcz
      have := B1.out.size
      omega
    have hcw : w1.cell? ai = some (.int .i64 y) := by
      have e_ : ai.add 0 = ai := (by simp [Addr.add])
      rw [e_] at hcz
      exact (B1.out.cell (World.block_lt_of_cell? w _ hcz)).trans hcz
    clear hcz hq r1
    go_wp2_with fail
    go_ret2
    exact ⟨by first | rfl | (rw [hz]; rfl) | (rw [← HS.out, hz]; rfl), B2.out⟩
set_option maxRecDepth 100000 in
theorem r7kind_calls (A : Option Addr) (c : Nat) (l : List S62) (n : Int) (w : World) (hl : LA w A c l) (n0 : 0 ≤ n) (n1 : n < ((flat l).length : Int)) :
    Calls Tryd.prog 113 #[.slice A l.length c, .int .i64 n] w fun e w' => e = .returned (.int .i64 (kindOf l n)) ∧ Below w.heap.size w w' := by
  have K := r5At_calls A c l n w hl n0 n1
  clear hl
  go_enter Tryd.func113, Tryd.ntmps113
  go_wp2_with fail
  refine K.mono ?_
  rintro e w1 ⟨A1, c1, A3, c3, A4, c4, A5, c5, i, p, rfl, hty, hb⟩
  obtain ⟨s, hs⟩ : ∃ s, s = tyAt l n := ⟨_, rfl⟩
  rw [← hs]
  have EK : Aside0 (kindOf l n = kindM s.f2.f0) := ⟨by rw [hs]; rfl⟩
  have B2 : Aside0 (Below w.heap.size w (w1.alloc (.cells #[.bool s.f0, .slice A1 s.f1.length c1, .int .i64 s.f2.f0, .slice A3 s.f2.f1.length c3, .slice A4 s.f2.f2.length c4, .slice A5 s.f2.f3.length c5] 53))) := ⟨hb.alloc hb.size _⟩
  clear hty K hs hb
  by_cases g1 : s.f2.f0 = 1
  · rw [g1] at B2 EK
    go_wp2_with fail
    go_ret
    exact ⟨by rw [EK.out]; rfl, B2.out⟩
  · by_cases g2 : s.f2.f0 = 2
    · rw [g2] at B2 EK
      go_wp2_with fail
      go_ret
      exact ⟨by rw [EK.out]; rfl, B2.out⟩
    · go_wp2_with fail
      go_ret
      exact ⟨by rw [EK.out]; simp [kindM, g1, g2], B2.out⟩
end Go.Proofs.YtfgglniigeagdaaDoor.Cn
namespace Go.Proofs.YtfgglniigeagdaaDoor.Cn
set_option linter.unusedSimpArgs false
set_option linter.unusedVariables false
open Go.RowKit Go.Maps Go.Proofs.YtfgglniigeagdaaDoorW.PrintWords Go.Proofs.YtfgglniigeagdaaDoorW.PrintLast Go.Proofs.YtfgglniigeagdaaDoorW.PrintMore Go.Proofs.YtfgglniigeagdaaDoor.QD
noncomputable def rowsM (l : List S62) (a b : Int) : Bool := (chain l ((flat l).length + 1) a).any fun x => (oneM l l (x.toNat : Int) (b.toNat : Int)).1
theorem LA.flat_le {w : World} {A : Option Addr} {c : Nat} {l : List S62} (h : LA w A c l) : (flat l).length ≤ 1048576 := by
  have hw := h.w
  have htc := tcount_le_wL l
  rw [flat_length]
  omega
set_option maxRecDepth 100000 in
set_option maxHeartbeats 8000000 in
theorem r7rows_calls (A : Option Addr) (c : Nat) (l : List S62) (a b : Int) (w : World) (hl : LA w A c l) (hc : Clo l) (a0 : 0 ≤ a) (a1 : a < ((flat l).length : Int)) (b0 : 0 ≤ b) :
    Calls Tryd.prog 112 #[.slice A l.length c, .int .i64 a, .int .i64 b] w fun e w' => e = .returned (.bool (rowsM l a b)) ∧ Below w.heap.size w w' := by
  have HL := Aside0.mk hl
  have HC := Aside0.mk hc
  have hll := hl.flat_le
  obtain ⟨m, hm⟩ : ∃ m, m = (flat l).length := ⟨_, rfl⟩
  have HM := Aside0.mk hm
  rw [← hm] at a1 hll
  have eb : ((b.toNat : Nat) : Int) = b := by omega
  have EB := Aside0.mk eb
  have A01 := Aside0.mk (And.intro a0 a1)
  clear hl hc hm eb a0 a1
  go_enter Tryd.func112, Tryd.ntmps112
  go_wp2_with fail
  go_loopw [1, 7] (fun v i W => ∃ (k : Nat) (x : Int) (p : List Int), i = .int .i64 k ∧ k ≤ m + 1 ∧ v = .int .i64 x ∧ (0 ≤ x ∧ x < (m : Int)) ∧ p ++ chain l (m + 1 - k) x = chain l (m + 1) a ∧ (∀ y ∈ p, (oneM l l (y.toNat : Int) b).1 = false) ∧ Below w.heap.size w W) (fun _ i _ => m + 1 - (intOf i).toNat)
  case atStart => exact ⟨0, a, [], rfl, Nat.zero_le _, rfl, A01.out, rfl, (fun y hy => by cases hy), Below.refl _ _⟩
  case round =>
    obtain ⟨k, x, p, rfl, hk, rfl, ⟨x0, x1⟩, hch, hp, hbw⟩ := hrel
    have HCH := Aside0.mk hch
    have HP := Aside0.mk hp
    have W0 := Aside0.mk hbw
    have KC := r5Count_calls A c l wr (HL.out.below hbw)
    rw [← HM.out] at KC
    clear hch hp hbw
    have k0 : (0 : Int) ≤ (k : Int) := Int.natCast_nonneg k
    have hwk : wrap64 ((k : Int) + 1) = (k : Int) + 1 := by unfold wrap64; omega
    by_cases hlk : k < m + 1
    · have kl : (k : Int) ≤ (m : Int) := by omega
      go_wp2_with fail
      refine KC.mono ?_
      rintro e w1 ⟨rfl, hb⟩
      have W1 := Aside0.mk (W0.out.trans (hb.mono W0.out.size))
      clear hb KC W0
      go_wp2_with fail
      refine (r7one_calls A c l x b w1 (HL.out.below W1.out)).mono ?_
      rintro e w2 ⟨rfl, hb⟩
      have W2 := Aside0.mk (W1.out.trans (hb.mono W1.out.size))
      clear hb W1
      have hk1 : m + 1 - k = (m - k) + 1 := by omega
      have hch := HCH.out
      rw [hk1] at hch
      have ex : ((x.toNat : Nat) : Int) = x := by omega
      obtain ⟨t, ht⟩ : ∃ t, chain l ((m - k) + 1) x = x :: t := ⟨_, rfl⟩
      cases hone : (oneM l l x b).1 with
      | true =>
        have RT : Aside0 (rowsM l a b = true) := ⟨by
          unfold rowsM
          rw [← HM.out, ← hch, ht, EB.out, List.any_append, List.any_cons]
          rw [ex, hone]
          simp only [Bool.true_or, Bool.or_true]⟩
        clear hch ht
        go_wp2_with fail
        go_ret
        exact ⟨by rw [RT.out]; rfl, W2.out⟩
      | false =>
        have KA := r7above_calls A c l x w2 (HL.out.below W2.out) x0 (by rw [← HM.out]; exact x1)
        have HO := Aside0.mk hone
        clear hone
        rcases hz : (tyAt l x).f1 with _ | ⟨y, t'⟩
        · rw [hz] at KA
          rw [chain_end _ hz] at hch
          have RT : Aside0 (rowsM l a b = false) := ⟨by
            unfold rowsM
            rw [← HM.out, ← hch, EB.out, List.any_append]
            simp only [List.any_cons, List.any_nil, ex, HO.out, Bool.or_false]
            rw [List.any_eq_false]
            intro z hz'
            rw [HP.out z hz']
            simp⟩
          clear hch ht hz
          dsimp only [aboveV] at KA
          go_wp2_with fail
          refine KA.mono ?_
          rintro e w3 ⟨rfl, hb⟩
          have W3 := Aside0.mk (W2.out.trans (hb.mono W2.out.size))
          clear hb
          go_wp2_with fail
          go_ret
          exact ⟨by rw [RT.out]; rfl, W3.out⟩
        · rw [hz] at KA
          rw [chain_on _ hz] at hch
          have HCE := Aside0.mk hch
          have HY := Aside0.mk (tyAt_supers HC.out x0 (by rw [← HM.out]; exact x1) y (by rw [hz]; simp))
          rw [← HM.out] at HY
          clear hch ht hz
          dsimp only [aboveV] at KA
          go_wp2_with fail
          refine KA.mono ?_
          rintro e w3 ⟨rfl, hb⟩
          have W3 := Aside0.mk (W2.out.trans (hb.mono W2.out.size))
          clear hb
          go_wp2_with fail
          go_roundw
          case rel => exact ⟨k + 1, y, p ++ [x], by go_num, by omega, rfl, HY.out, by have e_ : m + 1 - (k + 1) = m - k := (by omega); rw [e_, List.append_assoc]; exact HCE.out, fun z hz => (List.mem_append.1 hz).elim (fun h => HP.out z h) (fun h => by rw [List.mem_singleton.1 h, ex]; exact HO.out), W3.out⟩
          case measure => simp [intOf]; omega
    · obtain rfl : k = m + 1 := by omega
      have hch := HCH.out
      rw [Nat.sub_self] at hch
      have RT : Aside0 (rowsM l a b = false) := ⟨by
        unfold rowsM
        rw [← HM.out, ← hch, EB.out]
        simp only [chain, List.append_nil]
        rw [List.any_eq_false]
        intro z hz'
        rw [HP.out z hz']
        simp⟩
      clear hch hk hlk
      have kl : ¬ (((m + 1 : Nat) : Int) ≤ (m : Int)) := by omega
      go_wp2_with fail
      refine KC.mono ?_
      rintro e w1 ⟨rfl, hb⟩
      have W1 := Aside0.mk (W0.out.trans (hb.mono W0.out.size))
      clear hb KC W0
      go_wp2_with fail
      go_ret
      exact ⟨by rw [RT.out]; rfl, W1.out⟩
theorem heapM_eq {l : List S62} {a b : Int} (ha : isM l a = true) (hb : isM l b = true) : heapM l a b = (if a < 0 then if b < 0 then absM a b else decide (a = -10) && decide (kindOf l b ≠ -1) || decide (a = -2) && decide (kindOf l b = -1) else if b < 0 then absM (kindOf l a) b else rowsM l a b) := by
  unfold heapM
  rw [if_pos (by rw [ha, hb]; rfl)]
  rfl
set_option maxRecDepth 100000 in
set_option maxHeartbeats 8000000 in
theorem r7heap_calls (A : Option Addr) (c : Nat) (l : List S62) (a b : Int) (w : World) (hl : LA w A c l) (hc : Clo l) (ha : isM l a = true) (hb : isM l b = true) :
    Calls Tryd.prog 105 #[.slice A l.length c, .int .i64 a, .int .i64 b] w fun e w' => e = .returned (.bool (heapM l a b)) ∧ Below w.heap.size w w' := by
  obtain ⟨ha0, ha1⟩ := isM_bounds ha
  obtain ⟨hb0, hb1⟩ := isM_bounds hb
  have EM := Aside0.mk (heapM_eq ha hb)
  clear ha hb
  by_cases na : a < 0
  · by_cases nb : b < 0
    · have K := r7abstract_calls a b w ha0 na hb0 nb
      rw [EM.out, if_pos na, if_pos nb]
      clear hl hc
      go_enter Tryd.func105, Tryd.ntmps105
      go_wp2_with fail
      refine K.mono ?_
      rintro e w1 ⟨rfl, hb⟩
      have B1 := Aside0.mk hb
      clear hb K
      go_wp2_with fail
      go_ret
      exact ⟨rfl, B1.out⟩
    · have K := r7kind_calls A c l b w hl (by omega) hb1
      have hk := kindM_in (tyAt l b).f2.f0
      obtain ⟨kb, hkb⟩ : ∃ kb, kb = kindOf l b := ⟨_, rfl⟩
      rw [EM.out, if_pos na, if_neg nb]
      rw [← hkb] at K ⊢
      replace hk : kb = -1 ∨ kb = -8 ∨ kb = -9 := by rw [hkb]; exact hk
      clear hl hc hkb
      by_cases a10 : a = -10
      · subst a10
        rcases hk with rfl | rfl | rfl
        all_goals
          go_enter Tryd.func105, Tryd.ntmps105
          go_wp2_with fail
          refine K.mono ?_
          rintro e w1 ⟨rfl, hb⟩
          have B1 := Aside0.mk hb
          clear hb K
          go_wp2_with fail
          go_ret
          exact ⟨rfl, B1.out⟩
      · have e10 : (a == -10) = false := by simp [a10]
        by_cases a2 : a = -2
        · subst a2
          rcases hk with rfl | rfl | rfl
          all_goals
            go_enter Tryd.func105, Tryd.ntmps105
            go_wp2_with fail
            refine K.mono ?_
            rintro e w1 ⟨rfl, hb⟩
            have B1 := Aside0.mk hb
            clear hb K
            go_wp2_with fail
            go_ret
            exact ⟨rfl, B1.out⟩
        · have e2 : (a == -2) = false := by simp [a2]
          have EF : (decide (a = -10) && decide (kb ≠ -1) || decide (a = -2) && decide (kb = -1)) = false := by simp [a10, a2]
          rw [EF]
          clear K
          go_enter Tryd.func105, Tryd.ntmps105
          go_wp2_with fail
          go_ret
          exact ⟨rfl, Below.refl _ _⟩
  · by_cases nb : b < 0
    · have K := r7kind_calls A c l a w hl (by omega) ha1
      have hk := kindM_in (tyAt l a).f2.f0
      have hk' : -12 ≤ kindOf l a ∧ kindOf l a < 0 := by
        have hk2 : kindOf l a = -1 ∨ kindOf l a = -8 ∨ kindOf l a = -9 := hk
        omega
      have HK := Aside0.mk hk'
      rw [EM.out, if_neg na, if_pos nb]
      clear hl hc hk hk'
      go_enter Tryd.func105, Tryd.ntmps105
      go_wp2_with fail
      refine K.mono ?_
      rintro e w1 ⟨rfl, hb⟩
      have B1 := Aside0.mk hb
      clear hb K
      go_wp2_with fail
      refine (r7abstract_calls (kindOf l a) b w1 HK.out.1 HK.out.2 hb0 nb).mono ?_
      rintro e w2 ⟨rfl, hb⟩
      have B2 := Aside0.mk (B1.out.trans (hb.mono B1.out.size))
      clear hb
      go_wp2_with fail
      go_ret
      exact ⟨rfl, B2.out⟩
    · have K := r7rows_calls A c l a b w hl hc (by omega) ha1 (by omega)
      rw [EM.out, if_neg na, if_neg nb]
      clear hl hc
      go_enter Tryd.func105, Tryd.ntmps105
      go_wp2_with fail
      refine K.mono ?_
      rintro e w1 ⟨rfl, hb⟩
      have B1 := Aside0.mk hb
      clear hb K
      go_wp2_with fail
      go_ret
      exact ⟨rfl, B1.out⟩
set_option maxRecDepth 100000 in
theorem r7Heap_calls (A : Option Addr) (c : Nat) (l : List S62) (a b : Int) (w : World) (hl : LA w A c l) (hc : Clo l) :
    Calls Tryd.prog 99 #[.slice A l.length c, .int .i64 a, .int .i64 b] w fun e w' => e = .returned (.bool (heapM l a b)) ∧ Below w.heap.size w w' := by
  have HL := Aside0.mk hl
  have HC := Aside0.mk hc
  have K := r7closed_yes A c l w hl hc
  clear hl hc
  cases ha : isM l a with
  | false =>
    have EM : Aside0 (heapM l a b = false) := ⟨heapM_no (fun h => by rw [ha] at h; cases h.1)⟩
    go_enter Tryd.func99, Tryd.ntmps99
    go_wp2_with fail
    refine K.mono ?_
    rintro e w1 ⟨rfl, hb⟩
    have B1 := Aside0.mk hb
    clear hb K
    go_wp2_with fail
    have K2 := r7is_calls A c l a w1 (HL.out.below B1.out)
    rw [ha] at K2
    refine K2.mono ?_
    rintro e w2 ⟨rfl, hb⟩
    have B2 := Aside0.mk (B1.out.trans (hb.mono B1.out.size))
    clear hb K2
    go_wp2_with fail
    go_ret
    exact ⟨by rw [EM.out]; rfl, B2.out⟩
  | true =>
    go_enter Tryd.func99, Tryd.ntmps99
    go_wp2_with fail
    refine K.mono ?_
    rintro e w1 ⟨rfl, hb⟩
    have B1 := Aside0.mk hb
    clear hb K
    go_wp2_with fail
    have K2 := r7is_calls A c l a w1 (HL.out.below B1.out)
    rw [ha] at K2
    refine K2.mono ?_
    rintro e w2 ⟨rfl, hb⟩
    have B2 := Aside0.mk (B1.out.trans (hb.mono B1.out.size))
    clear hb K2
    go_wp2_with fail
    have K3 := r7is_calls A c l b w2 (HL.out.below B2.out)
    cases hb' : isM l b with
    | false =>
      have EM : Aside0 (heapM l a b = false) := ⟨heapM_no (fun h => by rw [hb'] at h; cases h.2)⟩
      rw [hb'] at K3
      refine K3.mono ?_
      rintro e w3 ⟨rfl, hb⟩
      have B3 := Aside0.mk (B2.out.trans (hb.mono B2.out.size))
      clear hb K3
      go_wp2_with fail
      go_ret
      exact ⟨by rw [EM.out]; rfl, B3.out⟩
    | true =>
      rw [hb'] at K3
      refine K3.mono ?_
      rintro e w3 ⟨rfl, hb⟩
      have B3 := Aside0.mk (B2.out.trans (hb.mono B2.out.size))
      clear hb K3
      go_wp2_with fail
      refine (r7heap_calls A c l a b w3 (HL.out.below B3.out) HC.out ha hb').mono ?_
      rintro e w4 ⟨rfl, hb⟩
      have B4 := Aside0.mk (B3.out.trans (hb.mono B3.out.size))
      clear hb
      go_wp2_with fail
      go_ret
      exact ⟨rfl, B4.out⟩
end Go.Proofs.YtfgglniigeagdaaDoor.Cn
namespace Go.Proofs.YtfgglniigeagdaaDoor.Cn
set_option linter.unusedSimpArgs false
set_option linter.unusedVariables false
open Go.RowKit Go.Maps Go.Proofs.YtfgglniigeagdaaDoorW.PrintWords Go.Proofs.YtfgglniigeagdaaDoorW.PrintLast Go.Proofs.YtfgglniigeagdaaDoorW.PrintMore Go.Proofs.YtfgglniigeagdaaDoor.QD
noncomputable def valM (l : List S62) (a b : S74) : Bool := decide (a.f0 = b.f0) && (decide (1 ≤ a.f0) && decide (a.f0 ≤ 7)) && (decide (a.f0 ≠ 5) || (heapM l a.f2 b.f2 && (!a.f1 || b.f1)))
noncomputable def valsM (l : List S62) (a b : List S74) : Bool := decide (a.length = b.length) && (a.zip b).all fun p => valM l p.1 p.2
noncomputable def fieldM (l : List S62) (a b : S118) : Bool := (a.f1 == b.f1) && valM l a.f0 b.f0 && (!a.f1 || valM l b.f0 a.f0)
noncomputable def compM (l : List S62) (a b : S51) : Bool :=
  decide (a.f0 = b.f0) && (if a.f0 = 1 then valsM l b.f1 a.f1 && valsM l a.f2 b.f2
    else (if a.f0 = 2 then decide (b.f3.length ≤ a.f3.length) else decide (a.f0 = 3) && decide (a.f3.length = 1) && decide (b.f3.length = 1)) && (a.f3.zip b.f3).all fun p => fieldM l p.1 p.2)
set_option maxRecDepth 100000 in
set_option maxHeartbeats 4000000 in
theorem r7Val_calls (A : Option Addr) (c : Nat) (l : List S62) (a b : S74) (w : World) (hl : LA w A c l) (hc : Clo l) :
    Calls Tryd.prog 96 #[.slice A l.length c, .agg #[.int .i64 a.f0, .bool a.f1, .int .i64 a.f2], .agg #[.int .i64 b.f0, .bool b.f1, .int .i64 b.f2]] w fun e w' => e = .returned (.bool (valM l a b)) ∧ Below w.heap.size w w' := by
  obtain ⟨x0, x1, x2⟩ := a
  obtain ⟨y0, y1, y2⟩ := b
  dsimp only
  have ba : Below w.heap.size w ((w.alloc (.cells #[.int .i64 x0, .bool x1, .int .i64 x2] 74)).alloc (.cells #[.int .i64 y0, .bool y1, .int .i64 y2] 74)) := ((Below.refl _ _).alloc (Nat.le_refl _) _).alloc (by simp) _
  have BA := Aside0.mk ba
  have K := r7Heap_calls A c l x2 y2 _ (hl.below ba) hc
  clear hl hc ba
  by_cases h1 : x0 = y0
  · subst h1
    by_cases h2 : 1 ≤ x0
    · by_cases h3 : x0 ≤ 7
      · by_cases h4 : x0 = 5
        · subst h4
          obtain ⟨h, hh⟩ : ∃ h, h = heapM l x2 y2 := ⟨_, rfl⟩
          have EM : Aside0 (valM l ⟨5, x1, x2⟩ ⟨5, y1, y2⟩ = (h && (!x1 || y1))) := ⟨by rw [hh]; simp [valM]⟩
          rw [← hh] at K
          clear h2 h3 hh
          go_enter Tryd.func96, Tryd.ntmps96
          go_wp2_with fail
          refine K.mono ?_
          rintro e w1 ⟨rfl, hb⟩
          have B1 : Aside0 (Below w.heap.size w w1) := ⟨BA.out.trans (hb.mono BA.out.size)⟩
          have q0 := blk_below (blk_alloc (blk_new w (.cells #[.int .i64 5, .bool x1, .int .i64 x2] 74)) (.cells #[.int .i64 5, .bool y1, .int .i64 y2] 74)) hb
          have q1 : w1.heap[w.heap.size + 1]? = some (.cells #[.int .i64 5, .bool y1, .int .i64 y2] 74 (0, 0)) := by have h_ := blk_below (blk_new (w.alloc (.cells #[.int .i64 5, .bool x1, .int .i64 x2] 74)) (.cells #[.int .i64 5, .bool y1, .int .i64 y2] 74)) hb; rw [World.size_alloc] at h_; exact h_
          have z0 : w1.cell? ⟨w.heap.size, 1, none⟩ = some (.bool x1) := (blk_cell q0 1).trans rfl
          have z1 : w1.cell? ⟨w.heap.size + 1, 1, none⟩ = some (.bool y1) := (blk_cell q1 1).trans rfl
          clear hb K q0 q1
          cases h <;> cases x1 <;>
            (go_wp2_with fail
             go_ret
             exact ⟨by rw [EM.out]; rfl, B1.out⟩)
        · have EM : Aside0 (valM l ⟨x0, x1, x2⟩ ⟨x0, y1, y2⟩ = true) := ⟨by simp [valM, h2, h3, h4]⟩
          clear K
          have hlt : ¬ x0 < 1 := by omega
          have hgt : ¬ 7 < x0 := by omega
          go_enter Tryd.func96, Tryd.ntmps96
          go_wp2_with fail
          go_ret
          exact ⟨by rw [EM.out]; rfl, BA.out⟩
      · have EM : Aside0 (valM l ⟨x0, x1, x2⟩ ⟨x0, y1, y2⟩ = false) := ⟨by simp [valM, h2, h3]⟩
        clear K
        have hlt : ¬ x0 < 1 := by omega
        have hgt : 7 < x0 := by omega
        go_enter Tryd.func96, Tryd.ntmps96
        go_wp2_with fail
        go_ret
        exact ⟨by rw [EM.out]; rfl, BA.out⟩
    · have EM : Aside0 (valM l ⟨x0, x1, x2⟩ ⟨x0, y1, y2⟩ = false) := ⟨by simp [valM, h2]⟩
      clear K
      have hlt : x0 < 1 := by omega
      go_enter Tryd.func96, Tryd.ntmps96
      go_wp2_with fail
      go_ret
      exact ⟨by rw [EM.out]; rfl, BA.out⟩
  · have EM : Aside0 (valM l ⟨x0, x1, x2⟩ ⟨y0, y1, y2⟩ = false) := ⟨by simp [valM, h1]⟩
    have e1 : (x0 != y0) = true := by simp [h1]
    clear K
    go_enter Tryd.func96, Tryd.ntmps96
    go_wp2_with fail
    go_ret
    exact ⟨by rw [EM.out]; rfl, BA.out⟩
theorem zip_snoc {α β : Type} {f : α × β → Bool} {us : List α} {vs : List β} {k : Nat} {x : α} {y : β} (hx : us[k]? = some x) (hy : vs[k]? = some y) : ((us.zip vs).take (k + 1)).all f = (((us.zip vs).take k).all f && f (x, y)) := by
  have : (us.zip vs)[k]? = some (x, y) := by exact List.getElem?_zip_eq_some.2 ⟨hx, hy⟩
  rw [List.take_add_one, this, List.all_append]
  simp
theorem zip_stop {α β : Type} {f : α × β → Bool} {us : List α} {vs : List β} {k : Nat} {x : α} {y : β} (hx : us[k]? = some x) (hy : vs[k]? = some y) (h : f (x, y) = false) : (us.zip vs).all f = false := by
  have : (us.zip vs)[k]? = some (x, y) := by exact List.getElem?_zip_eq_some.2 ⟨hx, hy⟩
  rw [List.all_eq_false]
  exact ⟨_, List.mem_of_getElem? this, by rw [h]; simp⟩
set_option maxRecDepth 100000 in
set_option maxHeartbeats 8000000 in
theorem r7Vals_calls (A : Option Addr) (c : Nat) (l : List S62) (Aa : Option Addr) (ca : Nat) (us : List S74) (Ab : Option Addr) (cb : Nat) (vs : List S74) (w : World) (hl : LA w A c l) (hc : Clo l) (hA : Kd.C k74 w Aa us.length us) (hB : Kd.C k74 w Ab vs.length vs) (hn : us.length ≤ 1048576) :
    Calls Tryd.prog 88 #[.slice A l.length c, .slice Aa us.length ca, .slice Ab vs.length cb] w fun e w' => e = .returned (.bool (valsM l us vs)) ∧ Below w.heap.size w w' := by
  have HL := Aside0.mk hl
  have HC := Aside0.mk hc
  have HA := Aside0.mk hA
  have HB := Aside0.mk hB
  clear hl hc hA hB
  by_cases hlen : us.length = vs.length
  rotate_left
  · have EM : Aside0 (valsM l us vs = false) := ⟨by simp [valsM, hlen]⟩
    have e1 : ((us.length : Int) != (vs.length : Int)) = true := by simp; omega
    go_enter Tryd.func88, Tryd.ntmps88
    go_wp2_with fail
    go_ret
    exact ⟨by rw [EM.out]; rfl, Below.refl _ _⟩
  have EV : Aside0 (valsM l us vs = (us.zip vs).all fun p => valM l p.1 p.2) := ⟨by simp [valsM, hlen]⟩
  obtain ⟨n, hnn⟩ : ∃ n, n = us.length := ⟨_, rfl⟩
  have NA := Aside0.mk hnn
  have NB : Aside0 (n = vs.length) := ⟨hnn.trans hlen⟩
  rw [← hlen, ← hnn]
  rw [← hnn] at hn
  rw [← NA.out] at HA
  rw [← NB.out] at HB
  clear hnn hlen
  go_enter Tryd.func88, Tryd.ntmps88
  go_wp2_with fail
  go_loopw [7] (fun i W => ∃ (k : Nat), i = .int .i64 k ∧ k ≤ n ∧ ((us.zip vs).take k).all (fun p => valM l p.1 p.2) = true ∧ Below w.heap.size w W) (fun i _ => n - (intOf i).toNat)
  case atStart => exact ⟨0, rfl, Nat.zero_le _, by simp, Below.refl _ _⟩
  case round =>
    obtain ⟨k, rfl, hk, hall, hbw⟩ := hrel
    have W0 := Aside0.mk hbw
    have ALL := Aside0.mk hall
    clear hall hbw
    have k0 : (0 : Int) ≤ (k : Int) := Int.natCast_nonneg k
    by_cases hlk : k < n
    · obtain ⟨aa, ea, d0, d1, d2⟩ := at_T74 HA.out (k : Int) k0 (by omega)
      obtain ⟨ab, eb, f0, f1, f2⟩ := at_T74 HB.out (k : Int) k0 (by omega)
      subst ea
      subst eb
      have XA : Aside0 (us[k]? = some (rd_T74 us (k : Int))) := ⟨by unfold rd_T74; rw [Int.toNat_natCast, List.getD_eq_getElem?_getD, List.getElem?_eq_getElem (by have := NA.out; omega)]; rfl⟩
      have XB : Aside0 (vs[k]? = some (rd_T74 vs (k : Int))) := ⟨by unfold rd_T74; rw [Int.toNat_natCast, List.getD_eq_getElem?_getD, List.getElem?_eq_getElem (by have := NB.out; omega)]; rfl⟩
      obtain ⟨x, hx⟩ : ∃ x, x = rd_T74 us (k : Int) := ⟨_, rfl⟩
      obtain ⟨y, hy⟩ : ∃ y, y = rd_T74 vs (k : Int) := ⟨_, rfl⟩
      rw [← hx] at d0 d1 d2 XA
      rw [← hy] at f0 f1 f2 XB
      clear hx hy
      simp only [Int.toNat_natCast] at d0 d1 d2 f0 f1 f2
      replace d0 := (W0.out.cell (World.block_lt_of_cell? w _ d0)).trans d0
      replace d1 := (W0.out.cell (World.block_lt_of_cell? w _ d1)).trans d1
      replace d2 := (W0.out.cell (World.block_lt_of_cell? w _ d2)).trans d2
      replace f0 := (W0.out.cell (World.block_lt_of_cell? w _ f0)).trans f0
      replace f1 := (W0.out.cell (World.block_lt_of_cell? w _ f1)).trans f1
      replace f2 := (W0.out.cell (World.block_lt_of_cell? w _ f2)).trans f2
      have kl : (k : Int) < (n : Int) := by omega
      go_wp2_with fail
      refine start_ (n := 11) (S := fun w' => w'.cell? (aa.add (k * 3)) = some (.int .i64 x.f0) ∧ w'.cell? ⟨(aa.add (k * 3)).block, (aa.add (k * 3)).off + 1, none⟩ = some (.bool x.f1) ∧ w'.cell? ⟨(aa.add (k * 3)).block, (aa.add (k * 3)).off + 2, none⟩ = some (.int .i64 x.f2) ∧ w'.cell? (ab.add (k * 3)) = some (.int .i64 y.f0) ∧ w'.cell? ⟨(ab.add (k * 3)).block, (ab.add (k * 3)).off + 1, none⟩ = some (.bool y.f1) ∧ w'.cell? ⟨(ab.add (k * 3)).block, (ab.add (k * 3)).off + 2, none⟩ = some (.int .i64 y.f2)) (ds := []) #[false, false, false, false, false, false, false, false, false, false, false] (by kernel_rfl) rfl rfl ⟨d0, d1, d2, f0, f1, f2⟩ (fun hHeld => ?_)
      have BD : Aside0 (Below w.heap.size w wr.drew) := ⟨W0.out.drew⟩
      replace d0 : wr.drew.cell? _ = _ := d0
      replace d1 : wr.drew.cell? _ = _ := d1
      replace d2 : wr.drew.cell? _ = _ := d2
      replace f0 : wr.drew.cell? _ = _ := f0
      replace f1 : wr.drew.cell? _ = _ := f1
      replace f2 : wr.drew.cell? _ = _ := f2
      generalize wr.drew = w5 at BD d0 d1 d2 f0 f1 f2 hHeld ⊢
      refine pure_ (i := 0) (N := some 19) (v := ?_) (a' := ?_) #[true, false, false, false, false, false, false, false, false, false, false] rfl rfl (by kernel_rfl) (fun _ _ _ h => h) (Or.inl ⟨by rfl, ?_⟩) ?_ ?_
      rotate_left
      · intro w'
        go_simp
        with_reducible rfl
      rotate_left
      · simp only [Act.put, List.setIfInBounds_toArray, List.set_cons_zero, List.set_cons_succ, i64_w, i32_w]
        rfl
      refine pure_ (i := 1) (N := some 20) (v := ?_) (a' := ?_) #[true, true, false, false, false, false, false, false, false, false, false] rfl rfl (by kernel_rfl) (fun _ _ _ h => h) (Or.inl ⟨by rfl, ?_⟩) ?_ ?_
      rotate_left
      · intro w'
        go_simp
        with_reducible rfl
      rotate_left
      · simp only [Act.put, List.setIfInBounds_toArray, List.set_cons_zero, List.set_cons_succ, i64_w, i32_w]
        rfl
      refine pure_ (i := 2) (N := some 21) (v := ?_) (a' := ?_) #[true, true, true, false, false, false, false, false, false, false, false] rfl rfl (by kernel_rfl) (fun _ _ _ h => h) (Or.inl ⟨by rfl, ?_⟩) ?_ ?_
      rotate_left
      · intro w'
        go_simp
        with_reducible rfl
      rotate_left
      · simp only [Act.put, List.setIfInBounds_toArray, List.set_cons_zero, List.set_cons_succ, i64_w, i32_w]
        rfl
      refine pure_ (i := 3) (N := some 22) (v := ?_) (a' := ?_) #[true, true, true, true, false, false, false, false, false, false, false] rfl rfl (by kernel_rfl) (fun _ _ _ h => h) (Or.inl ⟨by rfl, ?_⟩) ?_ ?_
      rotate_left
      · intro w'
        go_simp
        with_reducible rfl
      rotate_left
      · simp only [Act.put, List.setIfInBounds_toArray, List.set_cons_zero, List.set_cons_succ, i64_w, i32_w]
        rfl
      refine pure_ (i := 5) (N := some 24) (v := ?_) (a' := ?_) #[true, true, true, true, false, true, false, false, false, false, false] rfl rfl (by kernel_rfl) (fun _ _ _ h => h) (Or.inl ⟨by rfl, ?_⟩) ?_ ?_
      rotate_left
      · intro w'
        go_simp
        with_reducible rfl
      rotate_left
      · simp only [Act.put, List.setIfInBounds_toArray, List.set_cons_zero, List.set_cons_succ, i64_w, i32_w]
        rfl
      refine pure_ (i := 6) (N := some 25) (v := ?_) (a' := ?_) #[true, true, true, true, false, true, true, false, false, false, false] rfl rfl (by kernel_rfl) (fun _ _ _ h => h) (Or.inl ⟨by rfl, ?_⟩) ?_ ?_
      rotate_left
      · intro w'
        go_simp
        with_reducible rfl
      rotate_left
      · simp only [Act.put, List.setIfInBounds_toArray, List.set_cons_zero, List.set_cons_succ, i64_w, i32_w]
        rfl
      refine pure_ (i := 7) (N := some 26) (v := ?_) (a' := ?_) #[true, true, true, true, false, true, true, true, false, false, false] rfl rfl (by kernel_rfl) (fun _ _ _ h => h) (Or.inl ⟨by rfl, ?_⟩) ?_ ?_
      rotate_left
      · intro w'
        go_simp
        with_reducible rfl
      rotate_left
      · simp only [Act.put, List.setIfInBounds_toArray, List.set_cons_zero, List.set_cons_succ, i64_w, i32_w]
        rfl
      refine take_ (i := 4) (N := some 23) (v := ?_) (a' := ?_) #[true, true, true, true, true, true, true, true, false, false, false] rfl rfl (by kernel_rfl) (fun _ _ _ h => h) (Or.inl ⟨by rfl, ?_⟩) hHeld ?_ ?_
      rotate_left
      · rintro w' ⟨s0, s1, s2, s3, s4, s5⟩
        go_simp
        with_reducible rfl
      rotate_left
      · simp only [Act.put, List.setIfInBounds_toArray, List.set_cons_zero, List.set_cons_succ, i64_w, i32_w]
        rfl
      refine take_ (i := 8) (N := some 27) (v := ?_) (a' := ?_) #[true, true, true, true, true, true, true, true, true, false, false] rfl rfl (by kernel_rfl) (fun _ _ _ h => h) (Or.inl ⟨by rfl, ?_⟩) hHeld ?_ ?_
      rotate_left
      · rintro w' ⟨s0, s1, s2, s3, s4, s5⟩
        go_simp
        with_reducible rfl
      rotate_left
      · simp only [Act.put, List.setIfInBounds_toArray, List.set_cons_zero, List.set_cons_succ, i64_w, i32_w]
        rfl
      refine one_ (i := 9) (N := some 28) #[true, true, true, true, true, true, true, true, true, true, false] rfl rfl (by kernel_rfl) (by decide) (fun K hK => ?_)
      refine goes_ Tryd.func96 (by kernel_rfl) rfl #[.slice A l.length c, .agg #[.int .i64 x.f0, .bool x.f1, .int .i64 x.f2], .agg #[.int .i64 y.f0, .bool y.f1, .int .i64 y.f2]] (by rfl) rfl rfl (by simp only [List.map_toArray, List.map_cons, List.map_nil]; rfl) ?_
      refine (r7Val_calls A c l x y w5 (HL.out.below BD.out) HC.out).mono ?_
      rintro e w6 ⟨rfl, hb6⟩
      have B6 := Aside0.mk (BD.out.trans (hb6.mono BD.out.size))
      refine ⟨_, rfl, ?_⟩
      refine hK.out _ _ ⟨(hb6.cell (World.block_lt_of_cell? w5 _ d0)).trans d0, (hb6.cell (World.block_lt_of_cell? w5 _ d1)).trans d1, (hb6.cell (World.block_lt_of_cell? w5 _ d2)).trans d2, (hb6.cell (World.block_lt_of_cell? w5 _ f0)).trans f0, (hb6.cell (World.block_lt_of_cell? w5 _ f1)).trans f1, (hb6.cell (World.block_lt_of_cell? w5 _ f2)).trans f2⟩ (fun hHeld => ?_)
      clear hK K
      refine norm_ (a' := ?_) ?_ ?_
      rotate_left
      · show Act.put _ (some 28) _ = _
        simp only [Act.put, List.setIfInBounds_toArray, List.set_cons_zero, List.set_cons_succ, i64_w, i32_w]
        rfl
      refine pure_ (i := 10) (N := some 29) (v := ?_) (a' := ?_) #[true, true, true, true, true, true, true, true, true, true, true] rfl rfl (by kernel_rfl) (fun _ _ _ h => h) (Or.inl ⟨by rfl, ?_⟩) ?_ ?_
      rotate_left
      · intro w'
        go_simp
        with_reducible rfl
      rotate_left
      · simp only [Act.put, List.setIfInBounds_toArray, List.set_cons_zero, List.set_cons_succ, i64_w, i32_w]
        rfl
      refine done_ (by kernel_rfl) ?_
      
      clear d0 d1 d2 f0 f1 f2
      cases hv : valM l x y with
      | false =>
        have EF : Aside0 (valsM l us vs = false) := ⟨by rw [EV.out]; exact zip_stop XA.out XB.out hv⟩
        clear hv
        go_wp2_with fail
        go_ret
        exact ⟨by rw [EF.out]; rfl, B6.out⟩
      | true =>
        have ES : Aside0 (((us.zip vs).take (k + 1)).all (fun p => valM l p.1 p.2) = true) := ⟨by rw [zip_snoc XA.out XB.out, ALL.out, hv]; rfl⟩
        clear hv
        go_wp2_with fail
        go_roundw
        case rel => exact ⟨k + 1, by go_num, by omega, ES.out, B6.out⟩
        case measure => simp [intOf]; omega
    · obtain rfl : k = n := by omega
      have EF : Aside0 (valsM l us vs = true) := ⟨by
        have h := ALL.out
        rw [List.take_of_length_le (by rw [List.length_zip, ← NA.out, ← NB.out]; omega)] at h
        rw [EV.out]; exact h⟩
      clear hk hlk
      go_wp2_with fail
      go_ret
      exact ⟨by rw [EF.out]; rfl, W0.out⟩
set_option maxRecDepth 100000 in
set_option maxHeartbeats 4000000 in
theorem r7field_calls (A : Option Addr) (c : Nat) (l : List S62) (a b : S118) (w : World) (hl : LA w A c l) (hc : Clo l) :
    Calls Tryd.prog 89 #[.slice A l.length c, .agg #[.int .i64 a.f0.f0, .bool a.f0.f1, .int .i64 a.f0.f2, .bool a.f1], .agg #[.int .i64 b.f0.f0, .bool b.f0.f1, .int .i64 b.f0.f2, .bool b.f1]] w fun e w' => e = .returned (.bool (fieldM l a b)) ∧ Below w.heap.size w w' := by
  obtain ⟨x, mx⟩ := a
  obtain ⟨y, my⟩ := b
  dsimp only
  have ba : Below w.heap.size w ((w.alloc (.cells #[.int .i64 x.f0, .bool x.f1, .int .i64 x.f2, .bool mx] 118)).alloc (.cells #[.int .i64 y.f0, .bool y.f1, .int .i64 y.f2, .bool my] 118)) := ((Below.refl _ _).alloc (Nat.le_refl _) _).alloc (by simp) _
  have BA := Aside0.mk ba
  have HL := Aside0.mk hl
  have HC := Aside0.mk hc
  have K := r7Val_calls A c l x y _ (hl.below ba) hc
  clear hl hc ba
  by_cases hm : mx = my
  rotate_left
  · have EM : Aside0 (fieldM l ⟨x, mx⟩ ⟨y, my⟩ = false) := ⟨by simp [fieldM, hm]⟩
    have e1 : (mx == my) = false := by simp [hm]
    clear K
    go_enter Tryd.func89, Tryd.ntmps89
    go_wp2_with fail
    go_ret
    exact ⟨by rw [EM.out]; rfl, BA.out⟩
  subst hm
  cases hv : valM l x y with
  | false =>
    have EM : Aside0 (fieldM l ⟨x, mx⟩ ⟨y, mx⟩ = false) := ⟨by simp [fieldM, hv]⟩
    rw [hv] at K
    clear hv
    go_enter Tryd.func89, Tryd.ntmps89
    go_wp2_with fail
    refine K.mono ?_
    rintro e w1 ⟨rfl, hb⟩
    have B1 : Aside0 (Below w.heap.size w w1) := ⟨BA.out.trans (hb.mono BA.out.size)⟩
    clear hb K
    go_wp2_with fail
    go_ret
    exact ⟨by rw [EM.out]; rfl, B1.out⟩
  | true =>
    have EM : Aside0 (fieldM l ⟨x, mx⟩ ⟨y, mx⟩ = (!mx || valM l y x)) := ⟨by simp [fieldM, hv]⟩
    rw [hv] at K
    clear hv
    go_enter Tryd.func89, Tryd.ntmps89
    go_wp2_with fail
    refine K.mono ?_
    rintro e w1 ⟨rfl, hb⟩
    have B1 : Aside0 (Below w.heap.size w w1) := ⟨BA.out.trans (hb.mono BA.out.size)⟩
    have q0 := blk_below (blk_alloc (blk_new w (.cells #[.int .i64 x.f0, .bool x.f1, .int .i64 x.f2, .bool mx] 118)) (.cells #[.int .i64 y.f0, .bool y.f1, .int .i64 y.f2, .bool mx] 118)) hb
    have q1 : w1.heap[w.heap.size + 1]? = some (.cells #[.int .i64 y.f0, .bool y.f1, .int .i64 y.f2, .bool mx] 118 (0, 0)) := by have h_ := blk_below (blk_new (w.alloc (.cells #[.int .i64 x.f0, .bool x.f1, .int .i64 x.f2, .bool mx] 118)) (.cells #[.int .i64 y.f0, .bool y.f1, .int .i64 y.f2, .bool mx] 118)) hb; rw [World.size_alloc] at h_; exact h_
    have z00 : w1.cell? ⟨w.heap.size, 0, none⟩ = some (.int .i64 x.f0) := (blk_cell q0 0).trans rfl
    have z01 : w1.cell? ⟨w.heap.size, 1, none⟩ = some (.bool x.f1) := (blk_cell q0 1).trans rfl
    have z02 : w1.cell? ⟨w.heap.size, 2, none⟩ = some (.int .i64 x.f2) := (blk_cell q0 2).trans rfl
    have z03 : w1.cell? ⟨w.heap.size, 3, none⟩ = some (.bool mx) := (blk_cell q0 3).trans rfl
    have z10 : w1.cell? ⟨w.heap.size + 1, 0, none⟩ = some (.int .i64 y.f0) := (blk_cell q1 0).trans rfl
    have z11 : w1.cell? ⟨w.heap.size + 1, 1, none⟩ = some (.bool y.f1) := (blk_cell q1 1).trans rfl
    have z12 : w1.cell? ⟨w.heap.size + 1, 2, none⟩ = some (.int .i64 y.f2) := (blk_cell q1 2).trans rfl
    clear hb K q0 q1
    cases mx with
    | false =>
      go_wp2_with fail
      go_ret
      exact ⟨by rw [EM.out]; rfl, B1.out⟩
    | true =>
      go_wp2_with fail
      refine (r7Val_calls A c l y x w1 (HL.out.below B1.out) HC.out).mono ?_
      rintro e w2 ⟨rfl, hb⟩
      have B2 := Aside0.mk (B1.out.trans (hb.mono B1.out.size))
      clear hb
      go_wp2_with fail
      go_ret
      exact ⟨by rw [EM.out]; rfl, B2.out⟩
/-- A composite type's rows, in memory of others. -/
structure CIn2 (w : World) (a : S51) (P1 R1 F1 : Option Addr) : Prop where
  p : Kd.C k74 w P1 a.f1.length a.f1
  r : Kd.C k74 w R1 a.f2.length a.f2
  f : Kd.C k118 w F1 a.f3.length a.f3
  lp : a.f1.length ≤ 1048576
  lr : a.f2.length ≤ 1048576
  lf : a.f3.length ≤ 1048576
theorem CIn2.below {w w' : World} {a : S51} {P1 R1 F1 : Option Addr} (h : CIn2 w a P1 R1 F1) (hb : Below w.heap.size w w') : CIn2 w' a P1 R1 F1 := ⟨Kd.C_below h.p hb, Kd.C_below h.r hb, Kd.C_below h.f hb, h.lp, h.lr, h.lf⟩
set_option maxRecDepth 100000 in
set_option maxHeartbeats 8000000 in
theorem r7Comp_calls (A : Option Addr) (c : Nat) (l : List S62) (a : S51) (P1 : Option Addr) (p1 : Nat) (R1 : Option Addr) (r1 : Nat) (F1 : Option Addr) (f1 : Nat) (b : S51) (P2 : Option Addr) (p2 : Nat) (R2 : Option Addr) (r2 : Nat) (F2 : Option Addr) (f2 : Nat) (w : World) (hl : LA w A c l) (hc : Clo l) (ha : CIn2 w a P1 R1 F1) (hb : CIn2 w b P2 R2 F2) :
    Calls Tryd.prog 70 #[.slice A l.length c, .agg #[.int .i64 a.f0, .slice P1 a.f1.length p1, .slice R1 a.f2.length r1, .slice F1 a.f3.length f1], .agg #[.int .i64 b.f0, .slice P2 b.f1.length p2, .slice R2 b.f2.length r2, .slice F2 b.f3.length f2]] w fun e w' => e = .returned (.bool (compM l a b)) ∧ Below w.heap.size w w' := by
  have ba : Below w.heap.size w ((w.alloc (.cells #[.int .i64 a.f0, .slice P1 a.f1.length p1, .slice R1 a.f2.length r1, .slice F1 a.f3.length f1] 51)).alloc (.cells #[.int .i64 b.f0, .slice P2 b.f1.length p2, .slice R2 b.f2.length r2, .slice F2 b.f3.length f2] 51)) := ((Below.refl _ _).alloc (Nat.le_refl _) _).alloc (by simp) _
  have HL := Aside0.mk hl
  have HC := Aside0.mk hc
  have HA := Aside0.mk ha
  have HB := Aside0.mk hb
  have K := r7closed_yes A c l _ (hl.below ba) hc
  have BA := Aside0.mk ba
  have EM : Aside0 (compM l a b = compM l a b) := ⟨rfl⟩
  clear hl hc ha hb ba
  go_enter Tryd.func70, Tryd.ntmps70
  go_wp2_with fail
  refine K.mono ?_
  rintro e w1 ⟨rfl, hb⟩
  have B1 : Aside0 (Below w.heap.size w w1) := ⟨BA.out.trans (hb.mono BA.out.size)⟩
  have q0 := blk_below (blk_alloc (blk_new w (.cells #[.int .i64 a.f0, .slice P1 a.f1.length p1, .slice R1 a.f2.length r1, .slice F1 a.f3.length f1] 51)) (.cells #[.int .i64 b.f0, .slice P2 b.f1.length p2, .slice R2 b.f2.length r2, .slice F2 b.f3.length f2] 51)) hb
  have q1 : w1.heap[w.heap.size + 1]? = some (.cells #[.int .i64 b.f0, .slice P2 b.f1.length p2, .slice R2 b.f2.length r2, .slice F2 b.f3.length f2] 51 (0, 0)) := by have h_ := blk_below (blk_new (w.alloc (.cells #[.int .i64 a.f0, .slice P1 a.f1.length p1, .slice R1 a.f2.length r1, .slice F1 a.f3.length f1] 51)) (.cells #[.int .i64 b.f0, .slice P2 b.f1.length p2, .slice R2 b.f2.length r2, .slice F2 b.f3.length f2] 51)) hb; rw [World.size_alloc] at h_; exact h_
  have Q := Aside0.mk (And.intro q0 q1)
  clear hb K q0 q1 BA
  have z00 : w1.cell? ⟨w.heap.size, 0, none⟩ = some (.int .i64 a.f0) := (blk_cell Q.out.1 0).trans rfl
  have z01 : w1.cell? ⟨w.heap.size, 1, none⟩ = some (.slice P1 a.f1.length p1) := (blk_cell Q.out.1 1).trans rfl
  have z02 : w1.cell? ⟨w.heap.size, 2, none⟩ = some (.slice R1 a.f2.length r1) := (blk_cell Q.out.1 2).trans rfl
  have z03 : w1.cell? ⟨w.heap.size, 3, none⟩ = some (.slice F1 a.f3.length f1) := (blk_cell Q.out.1 3).trans rfl
  have z10 : w1.cell? ⟨w.heap.size + 1, 0, none⟩ = some (.int .i64 b.f0) := (blk_cell Q.out.2 0).trans rfl
  have z11 : w1.cell? ⟨w.heap.size + 1, 1, none⟩ = some (.slice P2 b.f1.length p2) := (blk_cell Q.out.2 1).trans rfl
  have z12 : w1.cell? ⟨w.heap.size + 1, 2, none⟩ = some (.slice R2 b.f2.length r2) := (blk_cell Q.out.2 2).trans rfl
  have z13 : w1.cell? ⟨w.heap.size + 1, 3, none⟩ = some (.slice F2 b.f3.length f2) := (blk_cell Q.out.2 3).trans rfl
  by_cases hk : a.f0 = b.f0
  rotate_left
  · have EF : Aside0 (compM l a b = false) := ⟨by simp [compM, hk]⟩
    have e1 : (a.f0 != b.f0) = true := by simp [hk]
    go_wp2_with fail
    go_ret
    exact ⟨by rw [EF.out]; rfl, B1.out⟩
  have e1 : (a.f0 != b.f0) = false := by simp [hk]
  by_cases k1 : a.f0 = 1
  · have EV : Aside0 (compM l a b = (valsM l b.f1 a.f1 && valsM l a.f2 b.f2)) := ⟨by simp [compM, hk.symm, k1]⟩
    have kb1 : b.f0 = 1 := by omega
    rw [k1] at z00
    rw [kb1] at z10
    clear e1 hk
    go_wp2_with fail
    refine (r7Vals_calls A c l P2 p2 b.f1 P1 p1 a.f1 w1 (HL.out.below B1.out) HC.out (HB.out.below B1.out).p (HA.out.below B1.out).p HB.out.lp).mono ?_
    rintro e w2 ⟨rfl, hb⟩
    have B2 := Aside0.mk (B1.out.trans (hb.mono B1.out.size))
    have y02 := (hb.cell (World.block_lt_of_cell? w1 _ z02)).trans z02
    have y12 := (hb.cell (World.block_lt_of_cell? w1 _ z12)).trans z12
    clear hb z00 z01 z02 z03 z10 z11 z12 z13
    cases h1 : valsM l b.f1 a.f1 with
    | false =>
      rw [h1] at EV
      go_wp2_with fail
      go_ret
      exact ⟨by rw [EV.out]; rfl, B2.out⟩
    | true =>
      rw [h1] at EV
      go_wp2_with fail
      refine (r7Vals_calls A c l R1 r1 a.f2 R2 r2 b.f2 w2 (HL.out.below B2.out) HC.out (HA.out.below B2.out).r (HB.out.below B2.out).r HA.out.lr).mono ?_
      rintro e w3 ⟨rfl, hb⟩
      have B3 := Aside0.mk (B2.out.trans (hb.mono B2.out.size))
      clear hb
      go_wp2_with fail
      go_ret
      exact ⟨by rw [EV.out]; rfl, B3.out⟩

  · by_cases k2 : a.f0 = 2
    · have kb2 : b.f0 = 2 := by omega
      have EV0 : Aside0 (compM l a b = (decide (b.f3.length ≤ a.f3.length) && (a.f3.zip b.f3).all fun p => fieldM l p.1 p.2)) := ⟨by simp [compM, hk.symm, k2]⟩
      rw [k2] at z00
      rw [kb2] at z10
      clear e1 hk
      by_cases hlen : b.f3.length ≤ a.f3.length
      rotate_left
      · have EF : Aside0 (compM l a b = false) := ⟨by rw [EV0.out]; simp; omega⟩
        have hl2 : (a.f3.length : Int) < (b.f3.length : Int) := by omega
        go_wp2_with fail
        go_ret
        exact ⟨by rw [EF.out]; rfl, B1.out⟩
      have EV : Aside0 (compM l a b = (a.f3.zip b.f3).all fun p => fieldM l p.1 p.2) := ⟨by rw [EV0.out]; simp [hlen]⟩
      have HLE := Aside0.mk hlen
      have hlb := HB.out.lf
      have hl2 : ¬ ((a.f3.length : Int) < (b.f3.length : Int)) := by omega
      go_wp2_with fail
      go_loopw [7] (fun i W => ∃ (k : Nat), i = .int .i64 k ∧ k ≤ b.f3.length ∧ ((a.f3.zip b.f3).take k).all (fun p => fieldM l p.1 p.2) = true ∧ Below w1.heap.size w1 W) (fun i _ => b.f3.length - (intOf i).toNat)
      case atStart => exact ⟨0, rfl, Nat.zero_le _, by simp, Below.refl _ _⟩
      case round =>
        clear z00 z01 z02 z03 z10 z11 z12 z13
        obtain ⟨k, rfl, hkk, hall, hbw⟩ := hrel
        have ALL := Aside0.mk hall
        have W1 := Aside0.mk hbw
        have W0 : Aside0 (Below w.heap.size w wr) := ⟨B1.out.trans (hbw.mono B1.out.size)⟩
        have z03 : wr.cell? ⟨w.heap.size, 3, none⟩ = some (.slice F1 a.f3.length f1) := (blk_cell (blk_below Q.out.1 hbw) 3).trans rfl
        have z13 : wr.cell? ⟨w.heap.size + 1, 3, none⟩ = some (.slice F2 b.f3.length f2) := (blk_cell (blk_below Q.out.2 hbw) 3).trans rfl
        clear hall hbw
        have k0 : (0 : Int) ≤ (k : Int) := Int.natCast_nonneg k
        by_cases hlk : k < b.f3.length
        · obtain ⟨aa, ea, d0, d1, d2, d3⟩ := at_T118 HA.out.f (k : Int) k0 (by have := HLE.out; omega)
          obtain ⟨ab, eb, g0, g1, g2, g3⟩ := at_T118 HB.out.f (k : Int) k0 (by omega)
          subst ea
          subst eb
          have XA : Aside0 (a.f3[k]? = some (rd_T118 a.f3 (k : Int))) := ⟨rd_FT_at a.f3 k (by have := HLE.out; omega)⟩
          have XB : Aside0 (b.f3[k]? = some (rd_T118 b.f3 (k : Int))) := ⟨rd_FT_at b.f3 k hlk⟩
          obtain ⟨x, hx⟩ : ∃ x, x = rd_T118 a.f3 (k : Int) := ⟨_, rfl⟩
          obtain ⟨y, hy⟩ : ∃ y, y = rd_T118 b.f3 (k : Int) := ⟨_, rfl⟩
          rw [← hx] at d0 d1 d2 d3 XA
          rw [← hy] at g0 g1 g2 g3 XB
          clear hx hy
          simp only [Int.toNat_natCast] at d0 d1 d2 d3 g0 g1 g2 g3
          replace d0 := (W0.out.cell (World.block_lt_of_cell? w _ d0)).trans d0
          replace d1 := (W0.out.cell (World.block_lt_of_cell? w _ d1)).trans d1
          replace d2 := (W0.out.cell (World.block_lt_of_cell? w _ d2)).trans d2
          replace d3 := (W0.out.cell (World.block_lt_of_cell? w _ d3)).trans d3
          replace g0 := (W0.out.cell (World.block_lt_of_cell? w _ g0)).trans g0
          replace g1 := (W0.out.cell (World.block_lt_of_cell? w _ g1)).trans g1
          replace g2 := (W0.out.cell (World.block_lt_of_cell? w _ g2)).trans g2
          replace g3 := (W0.out.cell (World.block_lt_of_cell? w _ g3)).trans g3
          have kl : (k : Int) < (b.f3.length : Int) := by omega
          have ka : (k : Int) < (a.f3.length : Int) := by have := HLE.out; omega
          go_wp2_with fail
          refine start_ (n := 13) (S := fun w' => w'.cell? ⟨w.heap.size, 3, none⟩ = some (.slice (some aa) a.f3.length f1) ∧ w'.cell? ⟨w.heap.size + 1, 3, none⟩ = some (.slice (some ab) b.f3.length f2) ∧ w'.cell? (aa.add (k * 4)) = some (.int .i64 x.f0.f0) ∧ w'.cell? ⟨(aa.add (k * 4)).block, (aa.add (k * 4)).off + 1, none⟩ = some (.bool x.f0.f1) ∧ w'.cell? ⟨(aa.add (k * 4)).block, (aa.add (k * 4)).off + 2, none⟩ = some (.int .i64 x.f0.f2) ∧ w'.cell? ⟨(aa.add (k * 4)).block, (aa.add (k * 4)).off + 3, none⟩ = some (.bool x.f1) ∧ w'.cell? (ab.add (k * 4)) = some (.int .i64 y.f0.f0) ∧ w'.cell? ⟨(ab.add (k * 4)).block, (ab.add (k * 4)).off + 1, none⟩ = some (.bool y.f0.f1) ∧ w'.cell? ⟨(ab.add (k * 4)).block, (ab.add (k * 4)).off + 2, none⟩ = some (.int .i64 y.f0.f2) ∧ w'.cell? ⟨(ab.add (k * 4)).block, (ab.add (k * 4)).off + 3, none⟩ = some (.bool y.f1)) (ds := []) #[false, false, false, false, false, false, false, false, false, false, false, false, false] (by kernel_rfl) rfl rfl ⟨z03, z13, d0, d1, d2, d3, g0, g1, g2, g3⟩ (fun hHeld => ?_)
          have BD : Aside0 (Below w1.heap.size w1 wr.drew) := ⟨W1.out.drew⟩
          have BE : Aside0 (Below w.heap.size w wr.drew) := ⟨W0.out.drew⟩
          replace z03 : wr.drew.cell? _ = _ := z03
          replace z13 : wr.drew.cell? _ = _ := z13
          replace d0 : wr.drew.cell? _ = _ := d0
          replace d1 : wr.drew.cell? _ = _ := d1
          replace d2 : wr.drew.cell? _ = _ := d2
          replace d3 : wr.drew.cell? _ = _ := d3
          replace g0 : wr.drew.cell? _ = _ := g0
          replace g1 : wr.drew.cell? _ = _ := g1
          replace g2 : wr.drew.cell? _ = _ := g2
          replace g3 : wr.drew.cell? _ = _ := g3
          generalize wr.drew = w5 at BD BE z03 z13 d0 d1 d2 d3 g0 g1 g2 g3 hHeld ⊢
          refine pure_ (i := 0) (N := some 64) (v := ?_) (a' := ?_) #[true, false, false, false, false, false, false, false, false, false, false, false, false] rfl rfl (by kernel_rfl) (fun _ _ _ h => h) (Or.inl ⟨by rfl, ?_⟩) ?_ ?_
          rotate_left
          · intro w'
            go_simp
            with_reducible rfl
          rotate_left
          · simp only [Act.put, List.setIfInBounds_toArray, List.set_cons_zero, List.set_cons_succ, i64_w, i32_w]
            rfl
          refine pure_ (i := 1) (N := some 65) (v := ?_) (a' := ?_) #[true, true, false, false, false, false, false, false, false, false, false, false, false] rfl rfl (by kernel_rfl) (fun _ _ _ h => h) (Or.inl ⟨by rfl, ?_⟩) ?_ ?_
          rotate_left
          · intro w'
            go_simp
            with_reducible rfl
          rotate_left
          · simp only [Act.put, List.setIfInBounds_toArray, List.set_cons_zero, List.set_cons_succ, i64_w, i32_w]
            rfl
          refine pure_ (i := 3) (N := some 67) (v := ?_) (a' := ?_) #[true, true, false, true, false, false, false, false, false, false, false, false, false] rfl rfl (by kernel_rfl) (fun _ _ _ h => h) (Or.inl ⟨by rfl, ?_⟩) ?_ ?_
          rotate_left
          · intro w'
            go_simp
            with_reducible rfl
          rotate_left
          · simp only [Act.put, List.setIfInBounds_toArray, List.set_cons_zero, List.set_cons_succ, i64_w, i32_w]
            rfl
          refine pure_ (i := 6) (N := some 70) (v := ?_) (a' := ?_) #[true, true, false, true, false, false, true, false, false, false, false, false, false] rfl rfl (by kernel_rfl) (fun _ _ _ h => h) (Or.inl ⟨by rfl, ?_⟩) ?_ ?_
          rotate_left
          · intro w'
            go_simp
            with_reducible rfl
          rotate_left
          · simp only [Act.put, List.setIfInBounds_toArray, List.set_cons_zero, List.set_cons_succ, i64_w, i32_w]
            rfl
          refine pure_ (i := 8) (N := some 72) (v := ?_) (a' := ?_) #[true, true, false, true, false, false, true, false, true, false, false, false, false] rfl rfl (by kernel_rfl) (fun _ _ _ h => h) (Or.inl ⟨by rfl, ?_⟩) ?_ ?_
          rotate_left
          · intro w'
            go_simp
            with_reducible rfl
          rotate_left
          · simp only [Act.put, List.setIfInBounds_toArray, List.set_cons_zero, List.set_cons_succ, i64_w, i32_w]
            rfl
          refine take_ (i := 2) (N := some 66) (v := ?_) (a' := ?_) #[true, true, true, true, false, false, true, false, true, false, false, false, false] rfl rfl (by kernel_rfl) (fun _ _ _ h => h) (Or.inl ⟨by rfl, ?_⟩) hHeld ?_ ?_
          rotate_left
          · rintro w' ⟨s0, s1, s2, s3, s4, s5, s6, s7, s8, s9⟩
            go_simp
            with_reducible rfl
          rotate_left
          · simp only [Act.put, List.setIfInBounds_toArray, List.set_cons_zero, List.set_cons_succ, i64_w, i32_w]
            rfl
          refine pure_ (i := 4) (N := some 68) (v := ?_) (a' := ?_) #[true, true, true, true, true, false, true, false, true, false, false, false, false] rfl rfl (by kernel_rfl) (fun _ _ _ h => h) (Or.inl ⟨by rfl, ?_⟩) ?_ ?_
          rotate_left
          · intro w'
            go_simp
            with_reducible rfl
          rotate_left
          · simp only [Act.put, List.setIfInBounds_toArray, List.set_cons_zero, List.set_cons_succ, i64_w, i32_w]
            rfl
          refine take_ (i := 5) (N := some 69) (v := ?_) (a' := ?_) #[true, true, true, true, true, true, true, false, true, false, false, false, false] rfl rfl (by kernel_rfl) (fun _ _ _ h => h) (Or.inl ⟨by rfl, ?_⟩) hHeld ?_ ?_
          rotate_left
          · rintro w' ⟨s0, s1, s2, s3, s4, s5, s6, s7, s8, s9⟩
            go_simp
            with_reducible rfl
          rotate_left
          · simp only [Act.put, List.setIfInBounds_toArray, List.set_cons_zero, List.set_cons_succ, i64_w, i32_w]
            rfl
          refine take_ (i := 7) (N := some 71) (v := ?_) (a' := ?_) #[true, true, true, true, true, true, true, true, true, false, false, false, false] rfl rfl (by kernel_rfl) (fun _ _ _ h => h) (Or.inl ⟨by rfl, ?_⟩) hHeld ?_ ?_
          rotate_left
          · rintro w' ⟨s0, s1, s2, s3, s4, s5, s6, s7, s8, s9⟩
            go_simp
            with_reducible rfl
          rotate_left
          · simp only [Act.put, List.setIfInBounds_toArray, List.set_cons_zero, List.set_cons_succ, i64_w, i32_w]
            rfl
          refine pure_ (i := 9) (N := some 73) (v := ?_) (a' := ?_) #[true, true, true, true, true, true, true, true, true, true, false, false, false] rfl rfl (by kernel_rfl) (fun _ _ _ h => h) (Or.inl ⟨by rfl, ?_⟩) ?_ ?_
          rotate_left
          · intro w'
            go_simp
            with_reducible rfl
          rotate_left
          · simp only [Act.put, List.setIfInBounds_toArray, List.set_cons_zero, List.set_cons_succ, i64_w, i32_w]
            rfl
          refine take_ (i := 10) (N := some 74) (v := ?_) (a' := ?_) #[true, true, true, true, true, true, true, true, true, true, true, false, false] rfl rfl (by kernel_rfl) (fun _ _ _ h => h) (Or.inl ⟨by rfl, ?_⟩) hHeld ?_ ?_
          rotate_left
          · rintro w' ⟨s0, s1, s2, s3, s4, s5, s6, s7, s8, s9⟩
            go_simp
            with_reducible rfl
          rotate_left
          · simp only [Act.put, List.setIfInBounds_toArray, List.set_cons_zero, List.set_cons_succ, i64_w, i32_w]
            rfl
          refine one_ (i := 11) (N := some 75) #[true, true, true, true, true, true, true, true, true, true, true, true, false] rfl rfl (by kernel_rfl) (by decide) (fun K hK => ?_)
          refine goes_ Tryd.func89 (by kernel_rfl) rfl #[.slice A l.length c, .agg #[.int .i64 x.f0.f0, .bool x.f0.f1, .int .i64 x.f0.f2, .bool x.f1], .agg #[.int .i64 y.f0.f0, .bool y.f0.f1, .int .i64 y.f0.f2, .bool y.f1]] (by rfl) rfl rfl (by simp only [List.map_toArray, List.map_cons, List.map_nil]; rfl) ?_
          refine (r7field_calls A c l x y w5 (HL.out.below BE.out) HC.out).mono ?_
          rintro e w6 ⟨rfl, hb6⟩
          have B6 := Aside0.mk (BD.out.trans (hb6.mono BD.out.size))
          refine ⟨_, rfl, ?_⟩
          refine hK.out _ _ ⟨(hb6.cell (World.block_lt_of_cell? w5 _ z03)).trans z03, (hb6.cell (World.block_lt_of_cell? w5 _ z13)).trans z13, (hb6.cell (World.block_lt_of_cell? w5 _ d0)).trans d0, (hb6.cell (World.block_lt_of_cell? w5 _ d1)).trans d1, (hb6.cell (World.block_lt_of_cell? w5 _ d2)).trans d2, (hb6.cell (World.block_lt_of_cell? w5 _ d3)).trans d3, (hb6.cell (World.block_lt_of_cell? w5 _ g0)).trans g0, (hb6.cell (World.block_lt_of_cell? w5 _ g1)).trans g1, (hb6.cell (World.block_lt_of_cell? w5 _ g2)).trans g2, (hb6.cell (World.block_lt_of_cell? w5 _ g3)).trans g3⟩ (fun hHeld => ?_)
          clear hK K
          refine norm_ (a' := ?_) ?_ ?_
          rotate_left
          · show Act.put _ (some 75) _ = _
            simp only [Act.put, List.setIfInBounds_toArray, List.set_cons_zero, List.set_cons_succ, i64_w, i32_w]
            rfl
          refine pure_ (i := 12) (N := some 76) (v := ?_) (a' := ?_) #[true, true, true, true, true, true, true, true, true, true, true, true, true] rfl rfl (by kernel_rfl) (fun _ _ _ h => h) (Or.inl ⟨by rfl, ?_⟩) ?_ ?_
          rotate_left
          · intro w'
            go_simp
            with_reducible rfl
          rotate_left
          · simp only [Act.put, List.setIfInBounds_toArray, List.set_cons_zero, List.set_cons_succ, i64_w, i32_w]
            rfl
          refine done_ (by kernel_rfl) ?_
          
          clear z03 z13 d0 d1 d2 d3 g0 g1 g2 g3
          cases hv : fieldM l x y with
          | false =>
            have EF : Aside0 (compM l a b = false) := ⟨by rw [EV.out]; exact zip_stop XA.out XB.out hv⟩
            clear hv
            go_wp2_with fail
            go_ret
            exact ⟨by rw [EF.out]; rfl, B1.out.trans (B6.out.mono B1.out.size)⟩
          | true =>
            have ES : Aside0 (((a.f3.zip b.f3).take (k + 1)).all (fun p => fieldM l p.1 p.2) = true) := ⟨by rw [zip_snoc XA.out XB.out, ALL.out, hv]; rfl⟩
            clear hv
            go_wp2_with fail
            go_roundw
            case rel => exact ⟨k + 1, by go_num, by omega, ES.out, B6.out⟩
            case measure => simp [intOf]; omega
        · obtain rfl : k = b.f3.length := by omega
          have EF : Aside0 (compM l a b = true) := ⟨by
            have h := ALL.out
            rw [List.take_of_length_le (by rw [List.length_zip]; omega)] at h
            rw [EV.out]; exact h⟩
          clear hkk hlk
          go_wp2_with fail
          go_ret
          exact ⟨by rw [EF.out]; rfl, W0.out⟩
    · by_cases k3 : a.f0 = 3
      · have kb3 : b.f0 = 3 := by omega
        have EV0 : Aside0 (compM l a b = (decide (a.f3.length = 1) && decide (b.f3.length = 1) && (a.f3.zip b.f3).all fun p => fieldM l p.1 p.2)) := ⟨by simp [compM, hk.symm, k3]⟩
        rw [k3] at z00
        rw [kb3] at z10
        clear e1 hk
        by_cases hla : a.f3.length = 1
        rotate_left
        · have EF : Aside0 (compM l a b = false) := ⟨by rw [EV0.out]; simp [hla]⟩
          have e2 : ((a.f3.length : Int) != 1) = true := by simp; omega
          go_wp2_with fail
          go_ret
          exact ⟨by rw [EF.out]; rfl, B1.out⟩
        have e2 : ((a.f3.length : Int) != 1) = false := by simp; omega
        by_cases hlb : b.f3.length = 1
        rotate_left
        · have EF : Aside0 (compM l a b = false) := ⟨by rw [EV0.out]; simp [hlb]⟩
          have e3 : ((b.f3.length : Int) != 1) = true := by simp; omega
          go_wp2_with fail
          go_ret
          exact ⟨by rw [EF.out]; rfl, B1.out⟩
        have e3 : ((b.f3.length : Int) != 1) = false := by simp; omega
        have EV : Aside0 (compM l a b = (a.f3.zip b.f3).all fun p => fieldM l p.1 p.2) := ⟨by rw [EV0.out]; simp [hla, hlb]⟩
        have HLE : Aside0 (b.f3.length ≤ a.f3.length) := ⟨by omega⟩
        have hlb' := HB.out.lf
        clear hla hlb
        go_wp2_with fail
        clear e2 e3
        go_loopw [7] (fun i W => ∃ (k : Nat), i = .int .i64 k ∧ k ≤ b.f3.length ∧ ((a.f3.zip b.f3).take k).all (fun p => fieldM l p.1 p.2) = true ∧ Below w1.heap.size w1 W) (fun i _ => b.f3.length - (intOf i).toNat)
        case atStart => exact ⟨0, rfl, Nat.zero_le _, by simp, Below.refl _ _⟩
        case round =>
          clear z00 z01 z02 z03 z10 z11 z12 z13
          obtain ⟨k, rfl, hkk, hall, hbw⟩ := hrel
          have ALL := Aside0.mk hall
          have W1 := Aside0.mk hbw
          have W0 : Aside0 (Below w.heap.size w wr) := ⟨B1.out.trans (hbw.mono B1.out.size)⟩
          have z03 : wr.cell? ⟨w.heap.size, 3, none⟩ = some (.slice F1 a.f3.length f1) := (blk_cell (blk_below Q.out.1 hbw) 3).trans rfl
          have z13 : wr.cell? ⟨w.heap.size + 1, 3, none⟩ = some (.slice F2 b.f3.length f2) := (blk_cell (blk_below Q.out.2 hbw) 3).trans rfl
          clear hall hbw
          have k0 : (0 : Int) ≤ (k : Int) := Int.natCast_nonneg k
          by_cases hlk : k < b.f3.length
          · obtain ⟨aa, ea, d0, d1, d2, d3⟩ := at_T118 HA.out.f (k : Int) k0 (by have := HLE.out; omega)
            obtain ⟨ab, eb, g0, g1, g2, g3⟩ := at_T118 HB.out.f (k : Int) k0 (by omega)
            subst ea
            subst eb
            have XA : Aside0 (a.f3[k]? = some (rd_T118 a.f3 (k : Int))) := ⟨rd_FT_at a.f3 k (by have := HLE.out; omega)⟩
            have XB : Aside0 (b.f3[k]? = some (rd_T118 b.f3 (k : Int))) := ⟨rd_FT_at b.f3 k hlk⟩
            obtain ⟨x, hx⟩ : ∃ x, x = rd_T118 a.f3 (k : Int) := ⟨_, rfl⟩
            obtain ⟨y, hy⟩ : ∃ y, y = rd_T118 b.f3 (k : Int) := ⟨_, rfl⟩
            rw [← hx] at d0 d1 d2 d3 XA
            rw [← hy] at g0 g1 g2 g3 XB
            clear hx hy
            simp only [Int.toNat_natCast] at d0 d1 d2 d3 g0 g1 g2 g3
            replace d0 := (W0.out.cell (World.block_lt_of_cell? w _ d0)).trans d0
            replace d1 := (W0.out.cell (World.block_lt_of_cell? w _ d1)).trans d1
            replace d2 := (W0.out.cell (World.block_lt_of_cell? w _ d2)).trans d2
            replace d3 := (W0.out.cell (World.block_lt_of_cell? w _ d3)).trans d3
            replace g0 := (W0.out.cell (World.block_lt_of_cell? w _ g0)).trans g0
            replace g1 := (W0.out.cell (World.block_lt_of_cell? w _ g1)).trans g1
            replace g2 := (W0.out.cell (World.block_lt_of_cell? w _ g2)).trans g2
            replace g3 := (W0.out.cell (World.block_lt_of_cell? w _ g3)).trans g3
            have kl : (k : Int) < (b.f3.length : Int) := by omega
            have ka : (k : Int) < (a.f3.length : Int) := by have := HLE.out; omega
            go_wp2_with fail
            refine start_ (n := 13) (S := fun w' => w'.cell? ⟨w.heap.size, 3, none⟩ = some (.slice (some aa) a.f3.length f1) ∧ w'.cell? ⟨w.heap.size + 1, 3, none⟩ = some (.slice (some ab) b.f3.length f2) ∧ w'.cell? (aa.add (k * 4)) = some (.int .i64 x.f0.f0) ∧ w'.cell? ⟨(aa.add (k * 4)).block, (aa.add (k * 4)).off + 1, none⟩ = some (.bool x.f0.f1) ∧ w'.cell? ⟨(aa.add (k * 4)).block, (aa.add (k * 4)).off + 2, none⟩ = some (.int .i64 x.f0.f2) ∧ w'.cell? ⟨(aa.add (k * 4)).block, (aa.add (k * 4)).off + 3, none⟩ = some (.bool x.f1) ∧ w'.cell? (ab.add (k * 4)) = some (.int .i64 y.f0.f0) ∧ w'.cell? ⟨(ab.add (k * 4)).block, (ab.add (k * 4)).off + 1, none⟩ = some (.bool y.f0.f1) ∧ w'.cell? ⟨(ab.add (k * 4)).block, (ab.add (k * 4)).off + 2, none⟩ = some (.int .i64 y.f0.f2) ∧ w'.cell? ⟨(ab.add (k * 4)).block, (ab.add (k * 4)).off + 3, none⟩ = some (.bool y.f1)) (ds := []) #[false, false, false, false, false, false, false, false, false, false, false, false, false] (by kernel_rfl) rfl rfl ⟨z03, z13, d0, d1, d2, d3, g0, g1, g2, g3⟩ (fun hHeld => ?_)
            have BD : Aside0 (Below w1.heap.size w1 wr.drew) := ⟨W1.out.drew⟩
            have BE : Aside0 (Below w.heap.size w wr.drew) := ⟨W0.out.drew⟩
            replace z03 : wr.drew.cell? _ = _ := z03
            replace z13 : wr.drew.cell? _ = _ := z13
            replace d0 : wr.drew.cell? _ = _ := d0
            replace d1 : wr.drew.cell? _ = _ := d1
            replace d2 : wr.drew.cell? _ = _ := d2
            replace d3 : wr.drew.cell? _ = _ := d3
            replace g0 : wr.drew.cell? _ = _ := g0
            replace g1 : wr.drew.cell? _ = _ := g1
            replace g2 : wr.drew.cell? _ = _ := g2
            replace g3 : wr.drew.cell? _ = _ := g3
            generalize wr.drew = w5 at BD BE z03 z13 d0 d1 d2 d3 g0 g1 g2 g3 hHeld ⊢
            refine pure_ (i := 0) (N := some 64) (v := ?_) (a' := ?_) #[true, false, false, false, false, false, false, false, false, false, false, false, false] rfl rfl (by kernel_rfl) (fun _ _ _ h => h) (Or.inl ⟨by rfl, ?_⟩) ?_ ?_
            rotate_left
            · intro w'
              go_simp
              with_reducible rfl
            rotate_left
            · simp only [Act.put, List.setIfInBounds_toArray, List.set_cons_zero, List.set_cons_succ, i64_w, i32_w]
              rfl
            refine pure_ (i := 1) (N := some 65) (v := ?_) (a' := ?_) #[true, true, false, false, false, false, false, false, false, false, false, false, false] rfl rfl (by kernel_rfl) (fun _ _ _ h => h) (Or.inl ⟨by rfl, ?_⟩) ?_ ?_
            rotate_left
            · intro w'
              go_simp
              with_reducible rfl
            rotate_left
            · simp only [Act.put, List.setIfInBounds_toArray, List.set_cons_zero, List.set_cons_succ, i64_w, i32_w]
              rfl
            refine pure_ (i := 3) (N := some 67) (v := ?_) (a' := ?_) #[true, true, false, true, false, false, false, false, false, false, false, false, false] rfl rfl (by kernel_rfl) (fun _ _ _ h => h) (Or.inl ⟨by rfl, ?_⟩) ?_ ?_
            rotate_left
            · intro w'
              go_simp
              with_reducible rfl
            rotate_left
            · simp only [Act.put, List.setIfInBounds_toArray, List.set_cons_zero, List.set_cons_succ, i64_w, i32_w]
              rfl
            refine pure_ (i := 6) (N := some 70) (v := ?_) (a' := ?_) #[true, true, false, true, false, false, true, false, false, false, false, false, false] rfl rfl (by kernel_rfl) (fun _ _ _ h => h) (Or.inl ⟨by rfl, ?_⟩) ?_ ?_
            rotate_left
            · intro w'
              go_simp
              with_reducible rfl
            rotate_left
            · simp only [Act.put, List.setIfInBounds_toArray, List.set_cons_zero, List.set_cons_succ, i64_w, i32_w]
              rfl
            refine pure_ (i := 8) (N := some 72) (v := ?_) (a' := ?_) #[true, true, false, true, false, false, true, false, true, false, false, false, false] rfl rfl (by kernel_rfl) (fun _ _ _ h => h) (Or.inl ⟨by rfl, ?_⟩) ?_ ?_
            rotate_left
            · intro w'
              go_simp
              with_reducible rfl
            rotate_left
            · simp only [Act.put, List.setIfInBounds_toArray, List.set_cons_zero, List.set_cons_succ, i64_w, i32_w]
              rfl
            refine take_ (i := 2) (N := some 66) (v := ?_) (a' := ?_) #[true, true, true, true, false, false, true, false, true, false, false, false, false] rfl rfl (by kernel_rfl) (fun _ _ _ h => h) (Or.inl ⟨by rfl, ?_⟩) hHeld ?_ ?_
            rotate_left
            · rintro w' ⟨s0, s1, s2, s3, s4, s5, s6, s7, s8, s9⟩
              go_simp
              with_reducible rfl
            rotate_left
            · simp only [Act.put, List.setIfInBounds_toArray, List.set_cons_zero, List.set_cons_succ, i64_w, i32_w]
              rfl
            refine pure_ (i := 4) (N := some 68) (v := ?_) (a' := ?_) #[true, true, true, true, true, false, true, false, true, false, false, false, false] rfl rfl (by kernel_rfl) (fun _ _ _ h => h) (Or.inl ⟨by rfl, ?_⟩) ?_ ?_
            rotate_left
            · intro w'
              go_simp
              with_reducible rfl
            rotate_left
            · simp only [Act.put, List.setIfInBounds_toArray, List.set_cons_zero, List.set_cons_succ, i64_w, i32_w]
              rfl
            refine take_ (i := 5) (N := some 69) (v := ?_) (a' := ?_) #[true, true, true, true, true, true, true, false, true, false, false, false, false] rfl rfl (by kernel_rfl) (fun _ _ _ h => h) (Or.inl ⟨by rfl, ?_⟩) hHeld ?_ ?_
            rotate_left
            · rintro w' ⟨s0, s1, s2, s3, s4, s5, s6, s7, s8, s9⟩
              go_simp
              with_reducible rfl
            rotate_left
            · simp only [Act.put, List.setIfInBounds_toArray, List.set_cons_zero, List.set_cons_succ, i64_w, i32_w]
              rfl
            refine take_ (i := 7) (N := some 71) (v := ?_) (a' := ?_) #[true, true, true, true, true, true, true, true, true, false, false, false, false] rfl rfl (by kernel_rfl) (fun _ _ _ h => h) (Or.inl ⟨by rfl, ?_⟩) hHeld ?_ ?_
            rotate_left
            · rintro w' ⟨s0, s1, s2, s3, s4, s5, s6, s7, s8, s9⟩
              go_simp
              with_reducible rfl
            rotate_left
            · simp only [Act.put, List.setIfInBounds_toArray, List.set_cons_zero, List.set_cons_succ, i64_w, i32_w]
              rfl
            refine pure_ (i := 9) (N := some 73) (v := ?_) (a' := ?_) #[true, true, true, true, true, true, true, true, true, true, false, false, false] rfl rfl (by kernel_rfl) (fun _ _ _ h => h) (Or.inl ⟨by rfl, ?_⟩) ?_ ?_
            rotate_left
            · intro w'
              go_simp
              with_reducible rfl
            rotate_left
            · simp only [Act.put, List.setIfInBounds_toArray, List.set_cons_zero, List.set_cons_succ, i64_w, i32_w]
              rfl
            refine take_ (i := 10) (N := some 74) (v := ?_) (a' := ?_) #[true, true, true, true, true, true, true, true, true, true, true, false, false] rfl rfl (by kernel_rfl) (fun _ _ _ h => h) (Or.inl ⟨by rfl, ?_⟩) hHeld ?_ ?_
            rotate_left
            · rintro w' ⟨s0, s1, s2, s3, s4, s5, s6, s7, s8, s9⟩
              go_simp
              with_reducible rfl
            rotate_left
            · simp only [Act.put, List.setIfInBounds_toArray, List.set_cons_zero, List.set_cons_succ, i64_w, i32_w]
              rfl
            refine one_ (i := 11) (N := some 75) #[true, true, true, true, true, true, true, true, true, true, true, true, false] rfl rfl (by kernel_rfl) (by decide) (fun K hK => ?_)
            refine goes_ Tryd.func89 (by kernel_rfl) rfl #[.slice A l.length c, .agg #[.int .i64 x.f0.f0, .bool x.f0.f1, .int .i64 x.f0.f2, .bool x.f1], .agg #[.int .i64 y.f0.f0, .bool y.f0.f1, .int .i64 y.f0.f2, .bool y.f1]] (by rfl) rfl rfl (by simp only [List.map_toArray, List.map_cons, List.map_nil]; rfl) ?_
            refine (r7field_calls A c l x y w5 (HL.out.below BE.out) HC.out).mono ?_
            rintro e w6 ⟨rfl, hb6⟩
            have B6 := Aside0.mk (BD.out.trans (hb6.mono BD.out.size))
            refine ⟨_, rfl, ?_⟩
            refine hK.out _ _ ⟨(hb6.cell (World.block_lt_of_cell? w5 _ z03)).trans z03, (hb6.cell (World.block_lt_of_cell? w5 _ z13)).trans z13, (hb6.cell (World.block_lt_of_cell? w5 _ d0)).trans d0, (hb6.cell (World.block_lt_of_cell? w5 _ d1)).trans d1, (hb6.cell (World.block_lt_of_cell? w5 _ d2)).trans d2, (hb6.cell (World.block_lt_of_cell? w5 _ d3)).trans d3, (hb6.cell (World.block_lt_of_cell? w5 _ g0)).trans g0, (hb6.cell (World.block_lt_of_cell? w5 _ g1)).trans g1, (hb6.cell (World.block_lt_of_cell? w5 _ g2)).trans g2, (hb6.cell (World.block_lt_of_cell? w5 _ g3)).trans g3⟩ (fun hHeld => ?_)
            clear hK K
            refine norm_ (a' := ?_) ?_ ?_
            rotate_left
            · show Act.put _ (some 75) _ = _
              simp only [Act.put, List.setIfInBounds_toArray, List.set_cons_zero, List.set_cons_succ, i64_w, i32_w]
              rfl
            refine pure_ (i := 12) (N := some 76) (v := ?_) (a' := ?_) #[true, true, true, true, true, true, true, true, true, true, true, true, true] rfl rfl (by kernel_rfl) (fun _ _ _ h => h) (Or.inl ⟨by rfl, ?_⟩) ?_ ?_
            rotate_left
            · intro w'
              go_simp
              with_reducible rfl
            rotate_left
            · simp only [Act.put, List.setIfInBounds_toArray, List.set_cons_zero, List.set_cons_succ, i64_w, i32_w]
              rfl
            refine done_ (by kernel_rfl) ?_
            
            clear z03 z13 d0 d1 d2 d3 g0 g1 g2 g3
            cases hv : fieldM l x y with
            | false =>
              have EF : Aside0 (compM l a b = false) := ⟨by rw [EV.out]; exact zip_stop XA.out XB.out hv⟩
              clear hv
              go_wp2_with fail
              go_ret
              exact ⟨by rw [EF.out]; rfl, B1.out.trans (B6.out.mono B1.out.size)⟩
            | true =>
              have ES : Aside0 (((a.f3.zip b.f3).take (k + 1)).all (fun p => fieldM l p.1 p.2) = true) := ⟨by rw [zip_snoc XA.out XB.out, ALL.out, hv]; rfl⟩
              clear hv
              go_wp2_with fail
              go_roundw
              case rel => exact ⟨k + 1, by go_num, by omega, ES.out, B6.out⟩
              case measure => simp [intOf]; omega
          · obtain rfl : k = b.f3.length := by omega
            have EF : Aside0 (compM l a b = true) := ⟨by
              have h := ALL.out
              rw [List.take_of_length_le (by rw [List.length_zip]; omega)] at h
              rw [EV.out]; exact h⟩
            clear hkk hlk
            go_wp2_with fail
            go_ret
            exact ⟨by rw [EF.out]; rfl, W0.out⟩
      · have EF : Aside0 (compM l a b = false) := ⟨by simp [compM, hk.symm, k1, k2, k3]⟩
        have n1 : (a.f0 == 1) = false := by simp [k1]
        have n2 : (a.f0 == 2) = false := by simp [k2]
        have n3 : (a.f0 == 3) = false := by simp [k3]
        go_wp2_with fail
        go_ret
        exact ⟨by rw [EF.out]; rfl, B1.out⟩
end Go.Proofs.YtfgglniigeagdaaDoor.Cn
namespace Go.Proofs.YtfgglniigeagdaaDoor.Cn
set_option linter.unusedSimpArgs false
set_option linter.unusedVariables false
open Go.RowKit Go.Maps Go.Proofs.YtfgglniigeagdaaDoorW.PrintWords Go.Proofs.YtfgglniigeagdaaDoorW.PrintLast Go.Proofs.YtfgglniigeagdaaDoorW.PrintMore Go.Proofs.YtfgglniigeagdaaDoor.QD
/-- Below n, types declare types ahead of them. -/
def Down (l : List S62) (n : Int) : Prop := ∀ x : Int, 0 ≤ x → x < n → ∀ y ∈ (tyAt l x).f1, y < x
def depthM (l : List S62) (n : Int) : Int := ((chain l ((flat l).length + 1) n).length : Int) - 1
noncomputable def declM (l : List S62) (n : Int) : Int :=
  if ∃ h ∈ (tyAt l n).f1, n ≤ h then 50
  else if 1 < (tyAt l n).f1.length then 1
  else match (tyAt l n).f1 with
    | [] => 0
    | o :: _ => if (tyAt l o).f0 = true then 70 else if 63 ≤ depthM l o then 72 else if compM l (tyAt l n).f2 (tyAt l o).f2 = true then 0 else 71
set_option maxRecDepth 100000 in
set_option maxHeartbeats 4000000 in
theorem r7depth_calls (A : Option Addr) (c : Nat) (l : List S62) (n : Int) (w : World) (hl : LA w A c l) (hc : Clo l) (n0 : 0 ≤ n) (n1 : n < ((flat l).length : Int)) (hd : Down l (n + 1)) :
    Calls Tryd.prog 69 #[.slice A l.length c, .int .i64 n] w fun e w' => e = .returned (.int .i64 (depthM l n)) ∧ Below w.heap.size w w' := by
  have HL := Aside0.mk hl
  have HC := Aside0.mk hc
  have HD := Aside0.mk hd
  have hll := hl.flat_le
  obtain ⟨m, hm⟩ : ∃ m, m = (flat l).length := ⟨_, rfl⟩
  have HM := Aside0.mk hm
  have K := r7above_calls A c l n w hl n0 n1
  rw [← hm] at n1 hll
  obtain ⟨u0, b0, hab⟩ : ∃ u b, aboveV (tyAt l n).f1 = .tuple #[.int .i64 u, .bool b] := by rcases (tyAt l n).f1 with _ | ⟨y, t⟩ <;> exact ⟨_, _, rfl⟩
  have HAB := Aside0.mk hab
  rw [hab] at K
  clear hl hc hd hm hab
  go_enter Tryd.func69, Tryd.ntmps69
  go_wp2_with fail
  refine K.mono ?_
  rintro e w1 ⟨rfl, hb⟩
  have B1 := Aside0.mk hb
  clear hb K
  go_wp2_with fail
  go_loopw [5, 6, 7] (fun d up ok W => ∃ (j : Nat) (x u : Int) (b : Bool) (p : List Int), d = .int .i64 j ∧ up = .int .i64 u ∧ ok = .bool b ∧ aboveV (tyAt l x).f1 = .tuple #[.int .i64 u, .bool b] ∧ (0 ≤ x ∧ x + j ≤ n) ∧ (p.length = j ∧ p ++ chain l (m + 1 - j) x = chain l (m + 1) n) ∧ Below w.heap.size w W) (fun d _ _ _ => n.toNat + 1 - (intOf d).toNat)
  case atStart => exact ⟨0, n, u0, b0, [], rfl, rfl, rfl, HAB.out, ⟨n0, by simp⟩, ⟨rfl, rfl⟩, B1.out⟩
  case round =>
    clear HAB
    obtain ⟨j, x, u, b, p, rfl, rfl, rfl, hab, ⟨x0, xj⟩, ⟨hpl, hch⟩, hbw⟩ := hrel
    have W0 := Aside0.mk hbw
    have HPL := Aside0.mk hpl
    have HCH := Aside0.mk hch
    have hjm : m + 1 - j = (m - j) + 1 := by omega
    rw [hjm] at hch
    have j0 : (0 : Int) ≤ (j : Int) := Int.natCast_nonneg j
    have hwj : wrap64 ((j : Int) + 1) = (j : Int) + 1 := by unfold wrap64; omega
    rcases hz : (tyAt l x).f1 with _ | ⟨y, t⟩
    · rw [hz] at hab
      rw [chain_end _ hz] at hch
      simp only [aboveV, Value.tuple.injEq] at hab
      have hb0 : b = false := by simp at hab; exact hab.2
      subst hb0
      have ED : Aside0 (depthM l n = (j : Int)) := ⟨by unfold depthM; rw [← HM.out, ← hch, List.length_append, HPL.out]; simp⟩
      clear hab hch hbw hpl hz
      go_wp2_with fail
      go_ret
      exact ⟨by rw [ED.out]; rfl, W0.out⟩
    · rw [hz] at hab
      rw [chain_on _ hz] at hch
      have hy1 := tyAt_supers HC.out x0 (by rw [← HM.out]; omega) y (by rw [hz]; simp)
      have hy2 := HD.out x x0 (by omega) y (by rw [hz]; simp)
      simp only [aboveV, Value.tuple.injEq] at hab
      have hb0 : b = true := by simp at hab; exact hab.2
      have hu0 : u = y := by simp at hab; exact hab.1.symm
      subst hb0
      subst hu0
      have KA := r7above_calls A c l u wr (HL.out.below hbw) hy1.1 hy1.2
      obtain ⟨u1, b1, hab1⟩ : ∃ u1 b1, aboveV (tyAt l u).f1 = .tuple #[.int .i64 u1, .bool b1] := by rcases (tyAt l u).f1 with _ | ⟨y, t⟩ <;> exact ⟨_, _, rfl⟩
      have HAB := Aside0.mk hab1
      have HCE := Aside0.mk hch
      rw [hab1] at KA
      clear hab hch hbw hpl hz hab1
      go_wp2_with fail
      refine KA.mono ?_
      rintro e w2 ⟨rfl, hb⟩
      have W2 := Aside0.mk (W0.out.trans (hb.mono W0.out.size))
      clear hb KA
      go_wp2_with fail
      go_roundw
      case rel => exact ⟨j + 1, u, u1, b1, p ++ [x], by go_num, rfl, rfl, HAB.out, ⟨hy1.1, by push_cast; omega⟩, ⟨by rw [List.length_append, HPL.out]; rfl, by have e_ : m + 1 - (j + 1) = m - j := (by omega); rw [e_, List.append_assoc]; exact HCE.out⟩, W2.out⟩
      case measure => simp [intOf]; omega
/-- The bounds of a composite type that came in. -/
theorem cin2_of {w : World} {l : List S62} {A : Option Addr} {c : Nat} (hl : LA w A c l) {n : Int} (n0 : 0 ≤ n) (n1 : n < ((flat l).length : Int)) {A1 : Option Addr} {c1 : Nat} {A3 : Option Addr} {c3 : Nat} {A4 : Option Addr} {c4 : Nat} {A5 : Option Addr} {c5 : Nat} (h : TyIn w (tyAt l n) A1 c1 A3 c3 A4 c4 A5 c5) : CIn2 w (tyAt l n).f2 A3 A4 A5 ∧ (tyAt l n).f1.length ≤ 1048576 := by
  obtain ⟨_, ⟨_, h3⟩, ⟨_, h4⟩, _, h5⟩ := h.open
  obtain ⟨j, r, p, hj, hr, he, hp⟩ := place_of l l.length n.toNat (Nat.le_refl _) (by rw [List.take_length, ← flat_length]; omega)
  have h6 : (flat l)[n.toNat]? = r.f0[p]? := by rw [he]; exact flat_get hr hp
  have h7 : tyAt l n = r.f0[p] := by
    unfold tyAt rd_T53
    rw [List.getD_eq_getElem?_getD, h6, List.getElem?_eq_getElem hp]
    rfl
  have hw := hl.w
  have hr' := List.mem_of_getElem? hr
  have hs : wS (tyAt l n) ≤ 1048576 := by
    rw [h7]
    have a1 := wS_le_wG (List.getElem_mem hp)
    have a2 := wG_le_wL hr'
    omega
  unfold wS at hs
  exact ⟨⟨h3, h4, h5, by omega, by omega, by omega⟩, by omega⟩
set_option maxRecDepth 100000 in
set_option maxHeartbeats 8000000 in
theorem r7declared_calls (A : Option Addr) (c : Nat) (l : List S62) (n : Int) (w : World) (hl : LA w A c l) (hc : Clo l) (n0 : 0 ≤ n) (n1 : n < ((flat l).length : Int)) (hd : Down l n) :
    Calls Tryd.prog 52 #[.slice A l.length c, .int .i64 n] w fun e w' => e = .returned (.int .i64 (declM l n)) ∧ Below w.heap.size w w' := by
  have HL := Aside0.mk hl
  have HC := Aside0.mk hc
  have HD := Aside0.mk hd
  have N01 := Aside0.mk (And.intro n0 n1)
  have K := r5At_calls A c l n w hl n0 n1
  clear hl hc hd
  go_enter Tryd.func52, Tryd.ntmps52
  go_wp2_with fail
  refine K.mono ?_
  rintro e w1 ⟨A1, c1, A3, c3, A4, c4, A5, c5, i0, p0, rfl, hty, hb⟩
  obtain ⟨hcin, hslen⟩ := cin2_of HL.out n0 n1 hty
  obtain ⟨⟨m1, r1⟩, _⟩ := hty.open
  obtain ⟨s, hs⟩ : ∃ s, s = tyAt l n := ⟨_, rfl⟩
  rw [← hs] at r1 m1 hcin hslen
  have HS := Aside0.mk hs
  have R1 := Aside0.mk r1
  have CI := Aside0.mk hcin
  obtain ⟨W2, hW2⟩ : ∃ W2, W2 = (w1.alloc (.cells #[.bool s.f0, .slice A1 s.f1.length c1, .int .i64 s.f2.f0, .slice A3 s.f2.f1.length c3, .slice A4 s.f2.f2.length c4, .slice A5 s.f2.f3.length c5] 53)) := ⟨_, rfl⟩
  have B2 : Aside0 (Below w.heap.size w W2) := ⟨by rw [hW2]; exact hb.alloc hb.size _⟩
  have Q2 : Aside0 (W2.heap[w1.heap.size]? = some (.cells #[.bool s.f0, .slice A1 s.f1.length c1, .int .i64 s.f2.f0, .slice A3 s.f2.f1.length c3, .slice A4 s.f2.f2.length c4, .slice A5 s.f2.f3.length c5] 53 (0, 0))) := ⟨by rw [hW2]; exact blk_new w1 _⟩
  rw [← hs]
  clear hty K hb r1 m1 hcin n0 n1 hs
  go_wp2_with fail
  rw [← hW2]
  clear hW2
  go_loopw [9] (fun i W => ∃ (k : Nat), i = .int .i64 k ∧ k ≤ s.f1.length ∧ (∀ y ∈ s.f1.take k, y < n) ∧ W = W2) (fun i _ => s.f1.length - (intOf i).toNat)
  case atStart => exact ⟨0, rfl, Nat.zero_le _, (fun y hy => by simp at hy), rfl⟩
  case round =>
    obtain ⟨k, rfl, hk, hall, rfl⟩ := hrel
    have ALL := Aside0.mk hall
    clear hall
    have k0 : (0 : Int) ≤ (k : Int) := Int.natCast_nonneg k
    have z1 : wr.cell? ⟨w1.heap.size, 1, none⟩ = some (.slice A1 s.f1.length c1) := (blk_cell Q2.out 1).trans rfl
    by_cases hlk : k < s.f1.length
    · obtain ⟨ai, y, eA, hy, hcy⟩ := at_int' R1.out k hlk
      subst eA
      replace hcy := (B2.out.cell (World.block_lt_of_cell? w _ hcy)).trans hcy
      have YM := Aside0.mk hy
      have kl : (k : Int) < (s.f1.length : Int) := by omega
      clear hy
      by_cases hyn : n ≤ y
      · have ED : Aside0 (declM l n = 50) := ⟨by unfold declM; rw [← HS.out, if_pos ⟨y, List.mem_of_getElem? YM.out, hyn⟩]⟩
        go_wp2_with fail
        go_ret
        exact ⟨by rw [ED.out]; rfl, B2.out⟩
      · go_wp2_with fail
        go_roundw
        case rel => exact ⟨k + 1, by go_num, by omega, (fun z hz => by rw [List.take_add_one, YM.out] at hz; rcases List.mem_append.1 hz with h | h; (· exact ALL.out z h); (· simp at h; omega)), trivial⟩
        case measure => simp [intOf]; omega
    · obtain rfl : k = s.f1.length := by omega
      have NOT : Aside0 (¬ ∃ h ∈ s.f1, n ≤ h) := ⟨by
        rintro ⟨h, hh, hn⟩
        have := ALL.out h (by rw [List.take_length]; exact hh)
        omega⟩
      have ED0 := Aside0.mk (show declM l n = _ from by unfold declM; rw [← HS.out, if_neg NOT.out])
      clear hk hlk
      by_cases hl1 : 1 < s.f1.length
      · have ED : Aside0 (declM l n = 1) := ⟨by rw [ED0.out, if_pos hl1]⟩
        have hl1' : (1 : Int) < (s.f1.length : Int) := by omega
        go_wp2_with fail
        go_ret
        exact ⟨by rw [ED.out]; rfl, B2.out⟩
      · have ED1 := Aside0.mk (ED0.out.trans (if_neg hl1))
        have hl1' : ¬ (1 : Int) < (s.f1.length : Int) := by omega
        rcases hz : s.f1 with _ | ⟨o, t⟩
        · have ED : Aside0 (declM l n = 0) := ⟨by rw [ED1.out, hz]⟩
          rw [hz] at z1
          go_wp2_with fail
          go_ret
          exact ⟨by rw [ED.out]; rfl, B2.out⟩
        · have ht : t = [] := by rw [hz] at hl1; cases t with | nil => rfl | cons u t => exact absurd (by simp) hl1
          subst ht
          have oin := tyAt_supers HC.out N01.out.1 N01.out.2 o (by rw [← HS.out, hz]; simp)
          have on : o < n := ALL.out o (by rw [List.take_length, hz]; simp)
          have DO : Aside0 (Down l (o + 1)) := ⟨fun x hx0 hx1 => HD.out x hx0 (by omega)⟩
          have OI := Aside0.mk oin
          have EDO := ED1.out
          rw [hz] at EDO
          dsimp only at EDO
          have ED2 := Aside0.mk EDO
          obtain ⟨ai, y, eA, hy, hcy⟩ := at_int' R1.out 0 (by rw [hz]; simp)
          obtain rfl : o = y := by rw [hz] at hy; simpa using hy
          have e_ : ai.add 0 = ai := (by simp [Addr.add])
          rw [e_] at hcy
          subst eA
          replace hcy := (B2.out.cell (World.block_lt_of_cell? w _ hcy)).trans hcy
          rw [hz] at z1
          have HZ := Aside0.mk hz
          clear hy e_ EDO ED1 ED0 hl1 hl1' hz on oin
          have KO := r5At_calls A c l o wr (HL.out.below B2.out) OI.out.1 OI.out.2
          go_wp2_with fail
          refine KO.mono ?_
          rintro e w3 ⟨E1, d1, E3, d3, E4, d4, E5, d5, i2, p2, rfl, hto, hb3⟩
          obtain ⟨hco, _⟩ := cin2_of (HL.out.below B2.out) OI.out.1 OI.out.2 hto
          obtain ⟨so, hso⟩ : ∃ so, so = tyAt l o := ⟨_, rfl⟩
          rw [← hso] at hco ⊢
          have HSO := Aside0.mk hso
          have CO := Aside0.mk hco
          have B3 := Aside0.mk (B2.out.trans (hb3.mono B2.out.size))
          have Q3 := Aside0.mk (blk_below Q2.out hb3)
          have hz3 : w1.heap.size < w3.heap.size := blk_lt Q3.out
          replace z1 := (hb3.cell (World.block_lt_of_cell? wr _ z1)).trans z1
          replace hcy := (hb3.cell (World.block_lt_of_cell? wr _ hcy)).trans hcy
          have hai : ai.block < w3.heap.size := World.block_lt_of_cell? w3 _ hcy
          have HB3 := Aside0.mk hb3
          clear hb3 hto hco hso KO
          cases hf : so.f0 with
          | true =>
            have ED : Aside0 (declM l n = 70) := ⟨by rw [ED2.out, ← HSO.out, if_pos hf]⟩
            have B4 : Aside0 (Below w.heap.size w (w3.alloc (.cells #[.bool so.f0, .slice E1 so.f1.length d1, .int .i64 so.f2.f0, .slice E3 so.f2.f1.length d3, .slice E4 so.f2.f2.length d4, .slice E5 so.f2.f3.length d5] 53))) := ⟨B3.out.alloc B3.out.size _⟩
            rw [hf] at B4
            clear hf
            go_wp2_with fail
            go_ret
            exact ⟨by rw [ED.out]; rfl, B4.out⟩
          | false =>
            have ED3 : Aside0 (declM l n = _) := ⟨by rw [ED2.out, ← HSO.out, if_neg (by rw [hf]; simp)]⟩
            have B4 : Aside0 (Below w.heap.size w (w3.alloc (.cells #[.bool so.f0, .slice E1 so.f1.length d1, .int .i64 so.f2.f0, .slice E3 so.f2.f1.length d3, .slice E4 so.f2.f2.length d4, .slice E5 so.f2.f3.length d5] 53))) := ⟨B3.out.alloc B3.out.size _⟩
            have Q4 : Aside0 ((w3.alloc (.cells #[.bool so.f0, .slice E1 so.f1.length d1, .int .i64 so.f2.f0, .slice E3 so.f2.f1.length d3, .slice E4 so.f2.f2.length d4, .slice E5 so.f2.f3.length d5] 53)).heap[w1.heap.size]? = some (.cells #[.bool s.f0, .slice (some ai) s.f1.length c1, .int .i64 s.f2.f0, .slice A3 s.f2.f1.length c3, .slice A4 s.f2.f2.length c4, .slice A5 s.f2.f3.length c5] 53 (0, 0)) ∧ (w3.alloc (.cells #[.bool so.f0, .slice E1 so.f1.length d1, .int .i64 so.f2.f0, .slice E3 so.f2.f1.length d3, .slice E4 so.f2.f2.length d4, .slice E5 so.f2.f3.length d5] 53)).heap[w3.heap.size]? = some (.cells #[.bool so.f0, .slice E1 so.f1.length d1, .int .i64 so.f2.f0, .slice E3 so.f2.f1.length d3, .slice E4 so.f2.f2.length d4, .slice E5 so.f2.f3.length d5] 53 (0, 0))) := ⟨blk_alloc Q3.out _, blk_new w3 _⟩
            have HB4 : Aside0 (Below wr.heap.size wr (w3.alloc (.cells #[.bool so.f0, .slice E1 so.f1.length d1, .int .i64 so.f2.f0, .slice E3 so.f2.f1.length d3, .slice E4 so.f2.f2.length d4, .slice E5 so.f2.f3.length d5] 53))) := ⟨HB3.out.alloc HB3.out.size _⟩
            rw [hf] at B4 Q4 HB4
            have KD := r7depth_calls A c l o _ (HL.out.below B4.out) HC.out OI.out.1 OI.out.2 DO.out
            clear hf
            go_wp2_with fail
            refine KD.mono ?_
            rintro e w5 ⟨rfl, hb5⟩
            have B5 := Aside0.mk (B4.out.trans (hb5.mono B4.out.size))
            have Q5 := Aside0.mk (And.intro (blk_below Q4.out.1 hb5) (blk_below Q4.out.2 hb5))
            have HB5 := Aside0.mk (HB4.out.trans (hb5.mono HB4.out.size))
            clear hb5 KD z1 hcy hai hz3
            by_cases hdp : 63 ≤ depthM l o
            · have ED : Aside0 (declM l n = 72) := ⟨by rw [ED3.out, if_pos hdp]⟩
              go_wp2_with fail
              go_ret
              exact ⟨by rw [ED.out]; rfl, B5.out⟩
            have ED4 : Aside0 (declM l n = _) := ⟨ED3.out.trans (if_neg hdp)⟩
            have u2 : w5.cell? ⟨w1.heap.size, 2, none⟩ = some (.int .i64 s.f2.f0) := (blk_cell Q5.out.1 2).trans rfl
            have u3 : w5.cell? ⟨w1.heap.size, 3, none⟩ = some (.slice A3 s.f2.f1.length c3) := (blk_cell Q5.out.1 3).trans rfl
            have u4 : w5.cell? ⟨w1.heap.size, 4, none⟩ = some (.slice A4 s.f2.f2.length c4) := (blk_cell Q5.out.1 4).trans rfl
            have u5 : w5.cell? ⟨w1.heap.size, 5, none⟩ = some (.slice A5 s.f2.f3.length c5) := (blk_cell Q5.out.1 5).trans rfl
            have v2 : w5.cell? ⟨w3.heap.size, 2, none⟩ = some (.int .i64 so.f2.f0) := (blk_cell Q5.out.2 2).trans rfl
            have v3 : w5.cell? ⟨w3.heap.size, 3, none⟩ = some (.slice E3 so.f2.f1.length d3) := (blk_cell Q5.out.2 3).trans rfl
            have v4 : w5.cell? ⟨w3.heap.size, 4, none⟩ = some (.slice E4 so.f2.f2.length d4) := (blk_cell Q5.out.2 4).trans rfl
            have v5 : w5.cell? ⟨w3.heap.size, 5, none⟩ = some (.slice E5 so.f2.f3.length d5) := (blk_cell Q5.out.2 5).trans rfl
            have KC := r7Comp_calls A c l s.f2 A3 c3 A4 c4 A5 c5 so.f2 E3 d3 E4 d4 E5 d5 w5 (HL.out.below B5.out) HC.out (CI.out.below B5.out) (CO.out.below HB5.out)
            go_wp2_with fail
            refine KC.mono ?_
            rintro e w6 ⟨rfl, hb6⟩
            have B6 := Aside0.mk (B5.out.trans (hb6.mono B5.out.size))
            clear hb6 KC
            have ED5 := ED4.out
            cases hcm : compM l s.f2 so.f2 with
            | true =>
              have ED : Aside0 (declM l n = 0) := ⟨by rw [ED5, if_pos (by first | exact hcm | (rw [← HSO.out]; exact hcm))]⟩
              clear ED5 hcm
              go_wp2_with fail
              go_ret
              exact ⟨by rw [ED.out]; rfl, B6.out⟩
            | false =>
              have ED : Aside0 (declM l n = 71) := ⟨by rw [ED5, if_neg (by first | (rw [hcm]; simp) | (rw [← HSO.out, hcm]; simp))]⟩
              clear ED5 hcm
              go_wp2_with fail
              go_ret
              exact ⟨by rw [ED.out]; rfl, B6.out⟩
theorem down_of {l : List S62} {n : Int} (h : ∀ m : Int, 0 ≤ m → m < n → declM l m = 0) : Down l n := by
  intro x x0 x1 y hy
  have h0 := h x x0 x1
  unfold declM at h0
  by_cases he : ∃ h ∈ (tyAt l x).f1, x ≤ h
  · rw [if_pos he] at h0; omega
  · rcases Int.lt_or_le y x with h1 | h1
    · exact h1
    · exact absurd ⟨y, hy, h1⟩ he
/-- What Decl answers of closed groups: the first type that may not be declared so. -/
def DeclOut (l : List S62) (n e : Int) : Prop := (n = 0 ∧ e = 0 ∧ ∀ m : Int, 0 ≤ m → m < ((flat l).length : Int) → declM l m = 0) ∨ (0 ≤ n ∧ n < ((flat l).length : Int) ∧ e = declM l n ∧ e ≠ 0 ∧ ∀ m : Int, 0 ≤ m → m < n → declM l m = 0)
set_option maxRecDepth 100000 in
set_option maxHeartbeats 4000000 in
theorem r7Decl_yes (A : Option Addr) (c : Nat) (l : List S62) (w : World) (hl : LA w A c l) (hc : Clo l) :
    Calls Tryd.prog 28 #[.slice A l.length c] w fun e w' => ∃ n er, e = .returned (.tuple #[.int .i64 n, .int .i64 er]) ∧ DeclOut l n er ∧ Below w.heap.size w w' := by
  have HL := Aside0.mk hl
  have HC := Aside0.mk hc
  have hll := hl.flat_le
  obtain ⟨m, hm⟩ : ∃ m, m = (flat l).length := ⟨_, rfl⟩
  have HM := Aside0.mk hm
  rw [← hm] at hll
  have K := closed_ref A c l w hl
  clear hl hc hm
  go_enter Tryd.func28, Tryd.ntmps28
  go_wp2_with fail
  refine K.mono ?_
  rintro e w1 ⟨⟨n0, e0, rfl, ho⟩, hb⟩
  obtain ⟨rfl, rfl⟩ := ho.yes HC.out
  have B1 := Aside0.mk hb
  clear hb K ho
  go_wp2_with fail
  go_loopw [6] (fun i W => ∃ (k : Nat), i = .int .i64 k ∧ k ≤ m ∧ (∀ q : Int, 0 ≤ q → q < (k : Int) → declM l q = 0) ∧ Below w.heap.size w W) (fun i _ => m - (intOf i).toNat)
  case atStart => exact ⟨0, rfl, Nat.zero_le _, (fun q h0 h1 => by omega), B1.out⟩
  case round =>
    obtain ⟨k, rfl, hk, hall, hbw⟩ := hrel
    have ALL := Aside0.mk hall
    have W0 := Aside0.mk hbw
    have KC := r5Count_calls A c l wr (HL.out.below hbw)
    rw [← HM.out] at KC
    clear hall hbw
    have k0 : (0 : Int) ≤ (k : Int) := Int.natCast_nonneg k
    by_cases hlk : k < m
    · have kl : (k : Int) < (m : Int) := by omega
      go_wp2_with fail
      refine KC.mono ?_
      rintro e w2 ⟨rfl, hb⟩
      have W2 := Aside0.mk (W0.out.trans (hb.mono W0.out.size))
      clear hb KC
      go_wp2_with fail
      refine (r7declared_calls A c l (k : Int) w2 (HL.out.below W2.out) HC.out k0 (by rw [← HM.out]; exact kl) (down_of ALL.out)).mono ?_
      rintro e w3 ⟨rfl, hb⟩
      have W3 := Aside0.mk (W2.out.trans (hb.mono W2.out.size))
      obtain ⟨d, hd⟩ : ∃ d, d = declM l (k : Int) := ⟨_, rfl⟩
      rw [← hd]
      have HD := Aside0.mk hd
      clear hb hd
      by_cases hd0 : d = 0
      · subst hd0
        go_wp2_with fail
        go_roundw
        case rel => exact ⟨k + 1, by go_num, by omega, (fun q h0 h1 => (Int.lt_or_le q (k : Int)).elim (fun h => ALL.out q h0 h) (fun h => by have e_ : q = (k : Int) := (by push_cast at h1; omega); rw [e_]; exact HD.out.symm)), W3.out⟩
        case measure => simp [intOf]; omega
      · have hne : (d != 0) = true := by simp [hd0]
        go_wp2_with fail
        go_ret2
        exact ⟨(k : Int), d, rfl, .inr ⟨k0, by rw [← HM.out]; exact kl, HD.out, hd0, ALL.out⟩, W3.out⟩
    · obtain rfl : k = m := by omega
      have kl : ¬ ((k : Int) < (k : Int)) := by omega
      clear hk hlk
      go_wp2_with fail
      refine KC.mono ?_
      rintro e w2 ⟨rfl, hb⟩
      have W2 := Aside0.mk (W0.out.trans (hb.mono W0.out.size))
      clear hb KC
      go_wp2_with fail
      go_ret2
      exact ⟨0, 0, rfl, .inl ⟨rfl, rfl, by rw [← HM.out]; exact ALL.out⟩, W2.out⟩
end Go.Proofs.YtfgglniigeagdaaDoor.Cn
namespace Go.Proofs.YtfgglniigeagdaaDoor.Cn
set_option linter.unusedSimpArgs false
set_option linter.unusedVariables false
open Go.RowKit Go.Maps Go.Proofs.YtfgglniigeagdaaDoorW.PrintWords Go.Proofs.YtfgglniigeagdaaDoorW.PrintLast Go.Proofs.YtfgglniigeagdaaDoorW.PrintMore Go.Proofs.YtfgglniigeagdaaDoor.QD
theorem ty_place {l : List S62} {x : Nat} (hx : x < tcount l) : ∃ (j : Nat) (r : S62) (o : Nat), l[j]? = some r ∧ x = tcount (l.take j) + o ∧ o < r.f0.length ∧ r.f0[o]? = some (tyAt l (x : Int)) := by
  obtain ⟨j, r, p, hj, hr, he, hp⟩ := place_of l l.length x (Nat.le_refl _) (by rw [List.take_length]; exact hx)
  refine ⟨j, r, p, hr, he, hp, ?_⟩
  have h2 : (flat l)[x]? = r.f0[p]? := by rw [he]; exact flat_get hr hp
  unfold tyAt rd_T53
  rw [Int.toNat_natCast, List.getD_eq_getElem?_getD, h2, List.getElem?_eq_getElem hp]
  rfl
/-- The ids of a list, and what they tell: two types are one just if their groups, rolled up, are one, and their places in these. -/
structure IdsOf (l : List S62) (gs : List (List S53)) (I : List Int) : Prop where
  dist : Dist gs
  len : I.length = tcount l
  pos : ∀ i ∈ I, 0 ≤ i
  all : ∀ (j : Nat) (r : S62), l[j]? = some r → ∃ idx, gs[idx]? = some (ownG (I.take (tcount (l.take j))) r) ∧ ∀ o, o < r.f0.length → I[tcount (l.take j) + o]? = some (firstOf gs idx + o)
  same : ∀ x y : Nat, x < tcount l → y < tcount l → (SameT l x y ↔ rd I x = rd I y)
theorem idsOf_ex {l : List S62} (hc : Clo l) (ht : tcount l ≤ 1048576) : ∃ gs I, IdsOf l gs I := by
  obtain ⟨g1, i1, h1, h2⟩ := oneIds_self ht
  obtain ⟨hD, _, ⟨t, he, hl⟩, hch⟩ := addTo_char _ _ _ _ _ _ h1 Dist.nil
  refine ⟨g1, i1, hD, by rw [he]; simpa using hl, ids_nonneg h1 Dist.nil, fun j r hr => ?_, fun x y hx hy => sameT_iff (g1 := g1) hc h2 hx hy⟩
  obtain ⟨idx, ha, hb⟩ := hch j r hr
  simp only [List.length_nil, Nat.zero_add] at ha hb
  exact ⟨idx, ha, hb⟩
theorem SameT.refl {l : List S62} (hc : Clo l) (ht : tcount l ≤ 1048576) {x : Nat} (hx : x < tcount l) : SameT l x x := by
  obtain ⟨gs, I, h⟩ := idsOf_ex hc ht
  exact (h.same x x hx hx).2 rfl
theorem SameT.symm {l : List S62} (hc : Clo l) (ht : tcount l ≤ 1048576) {x y : Nat} (hx : x < tcount l) (hy : y < tcount l) (hs : SameT l x y) : SameT l y x := by
  obtain ⟨gs, I, h⟩ := idsOf_ex hc ht
  exact (h.same y x hy hx).2 ((h.same x y hx hy).1 hs).symm
theorem SameT.trans {l : List S62} (hc : Clo l) (ht : tcount l ≤ 1048576) {x y z : Nat} (hx : x < tcount l) (hy : y < tcount l) (hz : z < tcount l) (h1 : SameT l x y) (h2 : SameT l y z) : SameT l x z := by
  obtain ⟨gs, I, h⟩ := idsOf_ex hc ht
  exact (h.same x z hx hz).2 (((h.same x y hx hy).1 h1).trans ((h.same y z hy hz).1 h2))
/-- What two numbers that roll up alike are: both abstract and the same, or two types that are one. -/
def RollSame (l : List S62) (p q : Int) : Prop := (p < 0 ∧ p = q) ∨ (0 ≤ p ∧ 0 ≤ q ∧ SameT l p.toNat q.toNat)
/-- Two types that are one: their types, rolled up, are one; and so are the numbers in them. -/
theorem same_parts {l : List S62} (hc : Clo l) (ht : tcount l ≤ 1048576) {x y : Nat} (hx : x < tcount l) (hy : y < tcount l) (hs : SameT l x y) :
    ∃ (Ix Iy : List Int) (ex ey : Int), mroll Ix (tyAt l (x : Int)) = mroll Iy (tyAt l (y : Int)) ∧ ex ≤ (tcount l : Nat) ∧ ey ≤ (tcount l : Nat) ∧
      TQ (fun h => -12 ≤ h ∧ h < ex) (tyAt l (x : Int)) ∧ TQ (fun h => -12 ≤ h ∧ h < ey) (tyAt l (y : Int)) ∧
      ∀ p q : Int, (-12 ≤ p ∧ p < ex) → (-12 ≤ q ∧ q < ey) → rollF Ix p = rollF Iy q → RollSame l p q := by
  obtain ⟨gs, I, h⟩ := idsOf_ex hc ht
  obtain ⟨j, r, o, hr, rfl, ho, hX⟩ := ty_place hx
  obtain ⟨j', r', o', hr', rfl, ho', hY⟩ := ty_place hy
  obtain ⟨idx, g1, g2⟩ := h.all j r hr
  obtain ⟨idx', g1', g2'⟩ := h.all j' r' hr'
  have hsame := (h.same _ _ hx hy).1 hs
  rw [rd_eq I _ _ (by rw [Int.toNat_natCast]; exact g2 o ho), rd_eq I _ _ (by rw [Int.toNat_natCast]; exact g2' o' ho')] at hsame
  obtain ⟨rfl, rfl⟩ := (id_eq_iff g1 g1' (by rw [ownG_length]; exact ho) (by rw [ownG_length]; exact ho')).1 hsame
  have hG : ownG (I.take (tcount (l.take j))) r = ownG (I.take (tcount (l.take j'))) r' := by rw [g1] at g1'; exact Option.some.inj g1'
  have hT := tcount_take_le l j r hr
  have hT' := tcount_take_le l j' r' hr'
  have hl1 : (I.take (tcount (l.take j))).length = tcount (l.take j) := by rw [List.length_take, h.len]; omega
  have hl2 : (I.take (tcount (l.take j'))).length = tcount (l.take j') := by rw [List.length_take, h.len]; omega
  have hpos : ∀ p : Nat, p < tcount l → 0 ≤ rd I (p : Int) := fun p hp => by
    obtain ⟨v, e⟩ : ∃ v, I[p]? = some v := ⟨_, List.getElem?_eq_getElem (show p < I.length by rw [h.len]; exact hp)⟩
    rw [rd_eq I p v (by rw [Int.toNat_natCast]; exact e)]
    exact h.pos v (List.mem_of_getElem? e)
  have hq := hc.tq hr (List.mem_of_getElem? hX)
  have hq' := hc.tq hr' (List.mem_of_getElem? hY)
  rw [tcount_take l j r hr] at hq
  rw [tcount_take l j' r' hr'] at hq'
  refine ⟨I.take (tcount (l.take j)), I.take (tcount (l.take j')), ((tcount (l.take j) + r.f0.length : Nat) : Int), ((tcount (l.take j') + r'.f0.length : Nat) : Int), ?_, by omega, by omega, hq, hq', ?_⟩
  · have h1 : (ownG (I.take (tcount (l.take j))) r)[o]? = (ownG (I.take (tcount (l.take j'))) r')[o]? := by rw [hG]
    unfold ownG at h1
    rw [List.getElem?_map, List.getElem?_map, hX, hY] at h1
    simpa using h1
  · intro p q hp hq0 he
    unfold rollF at he
    rw [hl1, hl2] at he
    by_cases p0 : p < 0
    · rw [if_pos p0] at he
      by_cases q0 : q < 0
      · rw [if_pos q0] at he; exact .inl ⟨p0, he⟩
      · rw [if_neg q0] at he
        by_cases q1 : q < (tcount (l.take j') : Int)
        · rw [if_pos q1, rd_take _ _ _ (by omega) q1] at he
          have := hpos q.toNat (by omega)
          rw [Int.toNat_of_nonneg (by omega)] at this
          omega
        · rw [if_neg q1] at he; omega
    · rw [if_neg p0] at he
      by_cases p1 : p < (tcount (l.take j) : Int)
      · rw [if_pos p1, rd_take _ _ _ (by omega) p1] at he
        have hp2 := hpos p.toNat (by omega)
        rw [Int.toNat_of_nonneg (by omega)] at hp2
        by_cases q0 : q < 0
        · rw [if_pos q0] at he; omega
        · rw [if_neg q0] at he
          by_cases q1 : q < (tcount (l.take j') : Int)
          · rw [if_pos q1, rd_take _ _ _ (by omega) q1] at he
            refine .inr ⟨by omega, by omega, (h.same _ _ (by omega) (by omega)).2 ?_⟩
            rw [Int.toNat_of_nonneg (by omega), Int.toNat_of_nonneg (by omega)]
            exact he
          · rw [if_neg q1] at he; omega
      · rw [if_neg p1] at he
        by_cases q0 : q < 0
        · rw [if_pos q0] at he; omega
        · rw [if_neg q0] at he
          by_cases q1 : q < (tcount (l.take j') : Int)
          · rw [if_pos q1, rd_take _ _ _ (by omega) q1] at he
            have := hpos q.toNat (by omega)
            rw [Int.toNat_of_nonneg (by omega)] at this
            omega
          · rw [if_neg q1] at he
            refine .inr ⟨by omega, by omega, (h.same _ _ (by omega) (by omega)).2 ?_⟩
            obtain ⟨d, hd⟩ : ∃ d : Nat, p = (tcount (l.take j) : Int) + d := ⟨(p - tcount (l.take j)).toNat, by omega⟩
            have hd' : q = (tcount (l.take j') : Int) + d := by omega
            have e1 : p.toNat = tcount (l.take j) + d := by omega
            have e2 : q.toNat = tcount (l.take j') + d := by omega
            rw [e1, e2, rd_eq I _ _ (by rw [Int.toNat_natCast]; exact g2 d (by omega)), rd_eq I _ _ (by rw [Int.toNat_natCast]; exact g2' d (by omega))]
/-- Two types that are one declare types above them that are one. -/
theorem same_supers {l : List S62} (hc : Clo l) (ht : tcount l ≤ 1048576) {x y : Nat} (hx : x < tcount l) (hy : y < tcount l) (hs : SameT l x y) :
    ((tyAt l (x : Int)).f1 = [] ∧ (tyAt l (y : Int)).f1 = []) ∨ ∃ p t q u, (tyAt l (x : Int)).f1 = p :: t ∧ (tyAt l (y : Int)).f1 = q :: u ∧ SameT l p.toNat q.toNat := by
  obtain ⟨Ix, Iy, ex, ey, hm, _, _, hX, hY, hr⟩ := same_parts hc ht hx hy hs
  have h1 : (tyAt l (x : Int)).f1.map (rollF Ix) = (tyAt l (y : Int)).f1.map (rollF Iy) := by
    have := congrArg S53.f1 hm
    simpa only [mroll_eq] using this
  have sx := tyAt_supers hc (x := (x : Int)) (by omega) (by rw [flat_length]; omega)
  rcases ha : (tyAt l (x : Int)).f1 with _ | ⟨p, t⟩
  · rw [ha] at h1
    rcases hb : (tyAt l (y : Int)).f1 with _ | ⟨q, u⟩
    · exact .inl ⟨rfl, rfl⟩
    · rw [hb] at h1; simp at h1
  · rw [ha] at h1
    rcases hb : (tyAt l (y : Int)).f1 with _ | ⟨q, u⟩
    · rw [hb] at h1; simp at h1
    · rw [hb] at h1
      simp only [List.map_cons, List.cons.injEq] at h1
      refine .inr ⟨p, t, q, u, rfl, rfl, ?_⟩
      rcases hr p q (hX.q1 p (by rw [ha]; simp)) (hY.q1 q (by rw [hb]; simp)) h1.1 with ⟨h2, _⟩ | ⟨_, _, h2⟩
      · have := (sx p (by rw [ha]; simp)).1; omega
      · exact h2
/-- Down a list of valid declarations, more fuel gives no longer chain. -/
theorem chain_fuel {l : List S62} (hc : Clo l) {N : Int} (hd : Down l N) (hN : N ≤ ((flat l).length : Int)) : ∀ (k : Nat) (x : Int) (k' : Nat), 0 ≤ x → x < N → x < k → k ≤ k' → chain l k x = chain l k' x := by
  intro k
  induction k with
  | zero => intro x k' h0 _ h1; omega
  | succ k ih =>
    intro x k' h0 h1 h2 h3
    obtain ⟨k'', rfl⟩ : ∃ k'', k' = k'' + 1 := ⟨k' - 1, by omega⟩
    rcases hz : (tyAt l x).f1 with _ | ⟨y, t⟩
    · rw [chain_end _ hz, chain_end _ hz]
    · rw [chain_on _ hz, chain_on _ hz]
      have hy := tyAt_supers hc h0 (by omega) y (by rw [hz]; simp)
      have hyx := hd x h0 h1 y (by rw [hz]; simp)
      rw [ih y k'' hy.1 (by omega) (by omega) (by omega)]
/-- The chain above a type, in full. -/
def ch (l : List S62) (x : Int) : List Int := chain l ((flat l).length + 1) x
theorem ch_on {l : List S62} (hc : Clo l) (hd : Down l ((flat l).length : Int)) {x y : Int} {t : List Int} (h0 : 0 ≤ x) (h1 : x < ((flat l).length : Int)) (hz : (tyAt l x).f1 = y :: t) : ch l x = x :: ch l y ∧ 0 ≤ y ∧ y < x := by
  have hy := tyAt_supers hc h0 h1 y (by rw [hz]; simp)
  have hyx := hd x h0 h1 y (by rw [hz]; simp)
  refine ⟨?_, hy.1, hyx⟩
  unfold ch
  rw [chain_on _ hz, chain_fuel hc hd (Int.le_refl _) (flat l).length y ((flat l).length + 1) hy.1 (by omega) (by omega) (by omega)]
theorem ch_end {l : List S62} {x : Int} (hz : (tyAt l x).f1 = []) : ch l x = [x] := chain_end _ hz
/-- What lies in the chain above x. -/
theorem ch_mem {l : List S62} (hc : Clo l) (hd : Down l ((flat l).length : Int)) : ∀ (k : Nat) (x : Int), 0 ≤ x → x < ((flat l).length : Int) → x < k → ∀ y ∈ ch l x, (0 ≤ y ∧ y ≤ x) ∧ (y = x ∨ (ch l y).length < (ch l x).length) := by
  intro k
  induction k with
  | zero => intro x h0 _ h; omega
  | succ k ih =>
    intro x h0 h1 hk y hy
    rcases hz : (tyAt l x).f1 with _ | ⟨z, t⟩
    · rw [ch_end hz] at hy
      have := List.mem_singleton.1 hy
      subst this
      exact ⟨⟨h0, Int.le_refl _⟩, .inl rfl⟩
    · obtain ⟨e, z0, zx⟩ := ch_on hc hd h0 h1 hz
      rw [e] at hy
      rcases List.mem_cons.1 hy with rfl | hy
      · exact ⟨⟨h0, Int.le_refl _⟩, .inl rfl⟩
      · obtain ⟨⟨a1, a2⟩, a3⟩ := ih z z0 (by omega) (by omega) y hy
        refine ⟨⟨a1, by omega⟩, .inr ?_⟩
        rw [e, List.length_cons]
        rcases a3 with rfl | a3 <;> omega
theorem rows_iff {l : List S62} {a b : Int} (b0 : 0 ≤ b) : rowsM l a b = true ↔ ∃ x ∈ ch l a, SameT l x.toNat b.toNat := by
  unfold rowsM
  rw [List.any_eq_true]
  exact Iff.rfl
theorem ch_self {l : List S62} (x : Int) : x ∈ ch l x := by
  unfold ch
  rcases hz : (tyAt l x).f1 with _ | ⟨y, t⟩
  · rw [chain_end _ hz]; simp
  · rw [chain_on _ hz]; simp
end Go.Proofs.YtfgglniigeagdaaDoor.Cn
