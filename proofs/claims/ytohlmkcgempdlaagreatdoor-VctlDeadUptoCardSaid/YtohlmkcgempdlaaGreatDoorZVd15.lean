/- Parts of the proof of vctlDead_holds (15 of 24): what it says and shows stands at its declarations. -/
import Derived.Test.YtohlmkcgempdlaaGreatDoorZVd14
import Derived.RangeFuncFrom
import Derived.RangeFuncNested
import Derived.RangeFuncCalls
import Derived.RangeFuncBound
import Derived.TacticsInMore
import Derived.OwnWalkIn
import Derived.LoopIn
import Derived.Shelf.RegionOpen
import Derived.ArgAppend
import Derived.Lib.AppendIntMem
namespace Go.Proofs.YtohlmkcgempdlaaGreatDoor.Cn
set_option linter.unusedSimpArgs false
set_option maxRecDepth 100000
set_option linter.unusedVariables false
open Go.RowKit Go.Maps Go.Proofs.YtohlmkcgempdlaaGreatDoorW.PrintWords Go.Proofs.YtohlmkcgempdlaaGreatDoorW.PrintLast Go.Proofs.YtohlmkcgempdlaaGreatDoorW.PrintMore Go.Proofs.YtohlmkcgempdlaaGreatDoor.QD
theorem blk_new' (w : World) (o : Obj) : (w.alloc o).heap[w.heap.size]? = some o := by show (w.heap.push o)[w.heap.size]? = some o; simp
theorem blk_lt' {w : World} {k : Nat} {o : Obj} (h : w.heap[k]? = some o) : k < w.heap.size := (Array.getElem?_eq_some_iff.1 h).1
/-- What the loop's own steps, and the iterator's, leave as it is. -/
structure Stays (nb B : Nat) (I : World → Prop) : Prop where
 put : ∀ (W : World) (l : Nat) (o : Obj), B ≤ l → l < W.heap.size → I W → I (W.putObj l o)
 set : ∀ (W : World) (v : Value), I W → I (W.setCell ⟨nb, 0, none⟩ v)
 drew : ∀ W : World, I W → I W.drew
 alloc : ∀ (W : World) (o : Obj), I W → I (W.alloc o)
/-- What a round leaves as it is, if it goes on. -/
structure RKeep (nb B : Nat) (W W' : World) : Prop where
 size : W.heap.size ≤ W'.heap.size
 own : W'.heap[nb]? = W.heap[nb]?
 new : ∀ k, B ≤ k → k < W.heap.size → W'.heap[k]? = W.heap[k]?
/-- How a round's body may be left. -/
def cellPost (nb B : Nat) (I : List Int → World → Prop) (Ix : Code → List Int → World → Prop) (p : List Int) (W : World) : Exit → Act → World → Prop
 | .normal, _, W' => RKeep nb B W W' ∧ I p W'
 | .ret, _, W' => (W.heap.size ≤ W'.heap.size ∧ ∀ k, B ≤ k → k < W.heap.size → W'.heap[k]? = W.heap[k]?) ∧ Ix .ret p W'
 | _, _, _ => False
/-- The iterator's contract. -/
def SeqCell (n : Nat) (P : Program) (gf : Nat) (lb : Array Value) (nb : Nat) (X : Obj) (Good : World → Prop) (Ok : Int → Prop) (S Sp : List Int → Prop) : Prop :=
 ∀ (l : Nat) (J Jx : List Int → World → Prop) (W : World), (∀ p W v, J p W → J p (W.setCell ⟨nb, 0, none⟩ v)) → (∀ p W, J p W → J p W.drew) → (∀ p W, J p W → Good W) →
  (∀ p (x : Int) W1, J p W1 → Ok x → YieldAt Fence.wide (n - 1) P l #[.int .i64 x] W1 fun e W' => (e = .returned (.bool true) ∧ J (p ++ [x]) W' ∧ W'.heap[nb]? = W1.heap[nb]?) ∨ (e = .returned (.bool false) ∧ Jx (p ++ [x]) W')) →
  J [] W → W.heap[nb]? = some X →
  CallsIn Fence.wide n P gf (#[.func (.yield l) #[] #[]] ++ lb) W fun e W' => (∃ v, e = .returned v) ∧ ((∃ p, S p ∧ J p W') ∨ (∃ p, Sp p ∧ Jx p W'))
theorem range_cell {n : Nat} {P : Program} {g : Operand} {ps : Array Tmp} {assign body : Code} {Q : Exit → Act → World → Prop} {a : Act} {w : World} {gf : Nat} {lb : Array Value} {nb : Nat} {X : Obj} {Good : World → Prop} {Ok : Int → Prop} {S Sp : List Int → Prop}
  (hg : a.eval g = .func (.func gf) #[] lb) (eg : ∀ args w, (callFunc gf args).run P w = .ok (.enter gf args) w) (hps : ps.size = 1)
  (hseq : SeqCell (n - 1) P gf lb nb X Good Ok S Sp) (hnb : nb < w.heap.size) (hX : w.heap[nb]? = some X)
  (I : List Int → World → Prop) (Ix : Code → List Int → World → Prop) (hI : ∀ p, Stays nb w.heap.size (I p)) (hG : ∀ p W, I p W → Good W)
  (hIx : ∀ c p W l o, w.heap.size ≤ l → l < W.heap.size → Ix c p W → Ix c p (W.putObj l o)) (h0 : I [] w) (a₁ : Int → Act)
  (hassign : ∀ (l : Nat) (x : Int) (W : World) (K : Act → World → Prop), K (a₁ x) W →
   assign.wpIn (Fence.wide.inRound l) (n - 1 - 1) P (Exit.then K (fun _ _ _ => False)) { tmps := (ps.zip #[.int .i64 x]).foldl (fun t (p, v) => t.setIfInBounds p v) a.tmps, defers := [] } W)
  (hbody : ∀ (l : Nat) (p : List Int) (x : Int) (W : World), I p W → Ok x → body.wpIn (Fence.wide.inRound l) (n - 1 - 1) P (cellPost nb w.heap.size I Ix (p ++ [x]) W) (a₁ x) W)
  (hdone : ∀ (D : Nat) (p : List Int) (W : World), w.heap.size ≤ D → S p → I p W → W.heap[D]? = some (.deferred (some [])) → Q .normal { a with defers := { target := .collected D, args := #[] } :: a.defers } W)
  (hstop : ∀ (D : Nat) (c : Code) (p : List Int) (W : World), w.heap.size ≤ D → Sp p → Ix c p W → W.heap[D]? = some (.deferred (some [])) → c.wpIn Fence.wide n P Q { a with defers := { target := .collected D, args := #[] } :: a.defers } W) :
  (Code.rangeFunc g ps assign body).wpIn Fence.wide n P Q a w := by
 refine wpIn_rangeFunc fun fn _ => ?_
 let rec0 : LoopState → Option Code → Obj := fun st pe => .loop { state := st, pending := pe, fn, tmps := a.tmps, params := ps, assign, body, defers := w.heap.size }
 let D := w.heap.size
 let R := w.heap.size + 1
 let w1 := (w.alloc (.deferred (some []))).alloc (rec0 .ready none)
 have r1 : w1.heap[R]? = some (rec0 .ready none) := by
  have := blk_new' (w.alloc (.deferred (some []))) (rec0 .ready none)
  rwa [World.size_alloc] at this
 have d1 : w1.heap[D]? = some (.deferred (some [])) := by
  have h := blk_new' w (.deferred (some []))
  exact (Below.heap_alloc _ _ _ (by simp [D])).trans h
 have i1 : I [] w1 := (hI []).alloc _ _ ((hI []).alloc _ _ h0)
 have x1 : w1.heap[nb]? = some X := (Below.heap_alloc _ _ _ (by simp; omega)).trans ((Below.heap_alloc _ _ _ hnb).trans hX)
 refine ⟨R, [{ target := .collected D, args := #[] }], w1, { target := .fn (.func gf) lb, args := #[.func (.yield R) #[] #[]] }, w1, gf, #[.func (.yield R) #[] #[]] ++ lb, w1, run_enterLoop_outer _ _ _ _ _, ?_, ?_, ?_, (fun h => (by cases h)), ?_⟩
 ·simp only [resolve, hg]
  simp [go_sem]
 ·intro f' _
  trivial
 ·simp [invoke, go_sem, eg]
 ·let J : List Int → World → Prop := fun p W => I p W ∧ W.heap[R]? = some (rec0 .ready none) ∧ W.heap[D]? = some (.deferred (some []))
  let Jx : List Int → World → Prop := fun p W => ∃ c, Ix c p W ∧ W.heap[R]? = some (rec0 .done (some c)) ∧ W.heap[D]? = some (.deferred (some []))
  have hnR : R ≠ nb := by show w.heap.size + 1 ≠ nb; omega
  have hnD : D ≠ nb := by show w.heap.size ≠ nb; omega
  have hDR : D ≠ R := by show w.heap.size ≠ w.heap.size + 1; omega
  refine (hseq R J Jx w1 (fun p W v hj => ⟨(hI p).set _ _ hj.1, (Below.heap_setCell W ⟨nb, 0, none⟩ v R hnR).trans hj.2.1, (Below.heap_setCell W ⟨nb, 0, none⟩ v D hnD).trans hj.2.2⟩) (fun p W hj => ⟨(hI p).drew _ hj.1, hj.2.1, hj.2.2⟩) (fun p W hj => hG p W hj.1) ?_ ⟨i1, r1, d1⟩ x1).mono ?_
  ·-- a round
   rintro p x W ⟨hi, hr, hd⟩ hok
   have hlt : R < W.heap.size := blk_lt' hr
   have hltD : D < W.heap.size := blk_lt' hd
   refine ⟨fn, _, assign, body, run_yield hr (by simp [hps]), roundIn_of_wpIn trivial (hassign R x W _ ⟨_, run_beginRound hr rfl, ?_⟩)⟩
   refine wpIn_mono (hbody R p x (W.putObj R (rec0 .busy none)) ((hI p).put _ _ _ (by show w.heap.size ≤ w.heap.size + 1; omega) hlt hi) hok) ?_
   have hrb : (W.putObj R (rec0 .busy none)).heap[R]? = some (rec0 .busy none) := World.putObj_heap_same hlt
   have hdb : (W.putObj R (rec0 .busy none)).heap[D]? = some (.deferred (some [])) := (World.putObj_heap_other hDR).trans hd
   have hnbk : (W.putObj R (rec0 .busy none)).heap[nb]? = W.heap[nb]? := World.putObj_heap_other (Ne.symm hnR)
   intro e a3 W3 hp
   cases e with
   | normal =>
    obtain ⟨hk, hi3⟩ := hp
    have hr3 : W3.heap[R]? = some (rec0 .busy none) := (hk.new R (by show w.heap.size ≤ w.heap.size + 1; omega) (by rw [World.putObj_size]; exact hlt)).trans hrb
    have hd3 : W3.heap[D]? = some (.deferred (some [])) := (hk.new D (Nat.le_refl _) (by rw [World.putObj_size]; exact hltD)).trans hdb
    refine ⟨_, _, run_endRound none hr3, .inl ⟨rfl, ⟨(hI _).put _ _ _ (by show w.heap.size ≤ w.heap.size + 1; omega) (blk_lt' hr3) hi3, World.putObj_heap_same (blk_lt' hr3), (World.putObj_heap_other hDR).trans hd3⟩, ?_⟩⟩
    exact (World.putObj_heap_other (Ne.symm hnR)).trans (hk.own.trans hnbk)
   | ret =>
    obtain ⟨⟨hsz, hk⟩, hi3⟩ := hp
    have hr3 : W3.heap[R]? = some (rec0 .busy none) := (hk R (by show w.heap.size ≤ w.heap.size + 1; omega) (by rw [World.putObj_size]; exact hlt)).trans hrb
    have hd3 : W3.heap[D]? = some (.deferred (some [])) := (hk D (Nat.le_refl _) (by rw [World.putObj_size]; exact hltD)).trans hdb
    exact ⟨_, _, run_endRound (some .ret) hr3, .inr ⟨rfl, .ret, hIx _ _ _ _ _ (by show w.heap.size ≤ w.heap.size + 1; omega) (blk_lt' hr3) hi3, World.putObj_heap_same (blk_lt' hr3), (World.putObj_heap_other hDR).trans hd3⟩⟩
   | exit id => exact hp.elim
   | goto t => exact hp.elim
   | panic ch => exact hp.elim
   | outgrown => exact hp.elim
  ·-- behind the iterator
   rintro e W2 ⟨⟨v, rfl⟩, (⟨p, hS, hi, hr, hd⟩ | ⟨p, hS, c, hi, hr, hd⟩)⟩
   ·exact ⟨none, _, run_endLoop hr (by intro e; cases e), hdone D p _ (Nat.le_refl _) hS ((hI p).put _ _ _ (by show w.heap.size ≤ w.heap.size + 1; omega) (blk_lt' hr) hi) ((World.putObj_heap_other hDR).trans hd)⟩
   ·exact ⟨some c, _, run_endLoop hr (by intro e; cases e), hstop D c p _ (Nat.le_refl _) hS (hIx _ _ _ _ _ (by show w.heap.size ≤ w.heap.size + 1; omega) (blk_lt' hr) hi) ((World.putObj_heap_other hDR).trans hd)⟩
def noDefer (ops : Array Oper) : Bool := ops.toList.all fun o => match o.op with | .defer _ => false | _ => true
theorem noDefer_spec {ops : Array Oper} (h : noDefer ops = true) {i : Nat} {o : Oper} (ho : ops[i]? = some o) : ∀ c, o.op ≠ .defer c := by
 intro c hc
 have hm : o ∈ ops.toList := by
  rw [← Array.getElem?_toList] at ho
  exact List.mem_of_getElem? ho
 have := List.all_eq_true.1 h o hm
 rw [hc] at this
 cases this
theorem upon_round {P : Program} {o : Oper} {a : Act} {next next' : Act → World → Prop} {Q : Exit → Act → World → Prop} {r : Result Next} {l n : Nat} (hn : ∀ a w, next a w → next' a w) (h : Oper.upon P o a next Q r) : Oper.uponIn (Fence.wide.inRound l) n P o a next' Q r := by
 cases r with
 | ok v w' =>
  cases v with
  | value v => exact hn _ _ h
  | skip => exact hn _ _ h
  | defer d => exact hn _ _ h
  | enter f args =>
   refine ⟨(fun h0 => (by cases h0)), CallsIn.inRound l (callsIn_wide.2 (Calls.mono h fun e w hh => ?_))⟩
   cases e with
   | returned v => exact hn _ _ hh
   | panicked c => exact hh
   | outgrown => exact hh
  | row row args =>
   refine ⟨(fun h0 => (by cases h0)), fun c cs _ => ?_⟩
   obtain ⟨v, w2, hr, hs⟩ := h c cs
   exact ⟨v, w2, hn _ _ hr, stepsIn_wide.2 hs⟩
  | _ => exact h.elim
 | halt s w' =>
  cases s <;> first | exact h | exact h.elim
theorem wpAnyIn_round {P : Program} {md : Region.Mode} {ops : Array Oper} {Q : Exit → Act → World → Prop} {l n : Nat} (hno : ¬ LetsOut Q) (hops : noDefer ops = true) :
  ∀ (fuel : Nat) (listed : Array Bool) (a : Act) (w : World), wpAny P md ops Q fuel listed a w → wpAnyIn (Fence.wide.inRound l) n P md ops Q fuel listed a w
 | 0, _, _, _, h => h
 | fuel + 1, listed, a, w, h => ⟨h.1, fun i hi => by
   have h2 := h.2 i hi
   unfold wpOp at h2
   unfold wpOpIn
   cases ho : ops[i]? with
   | none => rw [ho] at h2; exact wpAnyIn_round hno hops fuel _ _ _ h2
   | some o =>
    rw [ho] at h2
    dsimp only at h2 ⊢
    by_cases hw : Region.wanted o (yielded ops a.tmps) = true
    ·rw [if_pos hw] at h2 ⊢
     rcases h2 with h2 | h2
     ·refine ⟨fun _ _ => trivial, ?_⟩
      rw [Oper.semAt_eq _ _ _ (noDefer_spec hops ho)]
      exact upon_round (fun a' w' h' => wpAnyIn_round hno hops fuel _ a' w' h') h2
     ·exact absurd h2.2 hno
    ·rw [if_neg hw] at h2 ⊢
     exact ⟨fun _ _ => trivial, wpAnyIn_round hno hops fuel _ _ _ h2⟩⟩
theorem startR_ {P : Program} {ops : Array Oper} {Q : Exit → Act → World → Prop} {S : World → Prop} {ds : List Nat} {id n rl m : Nat} {a : Act} {w : World} (hno : ¬ LetsOut Q) (hops : noDefer ops = true) (l : Array Bool) (hm : P.follows .mixedOrders = true) (hn : ops.size = n) (hl : Array.replicate n false = l) (hS : S w.drew)
  (h : S w.drew → wpAnyLast P .any ops Q S ds n l a w.drew) : (Code.region id ops true).wpIn (Fence.wide.inRound rl) m P Q a w := by
 subst hn
 subst hl
 exact wpIn_region_any hm (wpAnyIn_round hno hops _ _ _ _ (wpAny_of_last _ _ _ _ (h hS)))
/-- A type and what it declares above it, at most k of them. -/
def chain (l : List S132) : Nat → Int → List Int
 | 0, _ => []
 | k + 1, x => x :: (match (tyAt l x).f1 with | [] => [] | y :: _ => chain l k y)
theorem chain_end {l : List S132} {x : Int} (k : Nat) (h : (tyAt l x).f1 = []) : chain l (k + 1) x = [x] := by simp [chain, h]
theorem chain_on {l : List S132} {x y : Int} {t : List Int} (k : Nat) (h : (tyAt l x).f1 = y :: t) : chain l (k + 1) x = x :: chain l k y := by simp [chain, h]
/-- In closed groups a type declares types of the list above it. -/
theorem tyAt_supers {l : List S132} (hc : Clo l) {x : Int} (h0 : 0 ≤ x) (h1 : x < ((flat l).length : Int)) : ∀ y ∈ (tyAt l x).f1, 0 ≤ y ∧ y < ((flat l).length : Int) := by
 obtain ⟨j, r, p, hj, hr, he, hp⟩ := place_of l l.length x.toNat (Nat.le_refl _) (by rw [List.take_length, ← flat_length]; omega)
 have h2 : (flat l)[x.toNat]? = r.f0[p]? := by rw [he]; exact flat_get hr hp
 have h3 : tyAt l x = r.f0[p] := by
  unfold tyAt rd_T123
  rw [List.getD_eq_getElem?_getD, h2, List.getElem?_eq_getElem hp]
  rfl
 have h4 := (typeOk_iff _ _).1 (hc j r hr (r.f0[p]) (List.getElem_mem hp))
 intro y hy
 rw [h3] at hy
 refine ⟨h4.1 y hy, ?_⟩
 have h5 := (h4.2.q1 y hy).2
 have h6 := tcount_mono l (j + 1) l.length (by omega)
 rw [List.take_length] at h6
 rw [flat_length]
 omega
set_option maxHeartbeats 8000000 in
theorem above_seq (l : List S132) (hc : Clo l) (cb pb nb : Nat) (x0 : Int) (h0 : 0 ≤ x0) (h1 : x0 < ((flat l).length : Int)) (hll : (flat l).length ≤ 1048576) (n : Nat) :
  SeqCell n Tryz.prog 180 #[.pointer (some ⟨pb, 0, none⟩), .pointer (some ⟨nb, 0, none⟩)] nb (.cells #[.int .i64 x0] 3 (0, 0)) (fun W => W.heap[pb]? = some (.cells #[.pointer (some ⟨cb, 0, none⟩)] 151 (0, 0)) ∧ Ctx l cb W) (fun x => 0 ≤ x ∧ x < ((flat l).length : Int))
   (fun p => p = chain l ((flat l).length + 1) x0) (fun p => ∃ t, p ++ t = chain l ((flat l).length + 1) x0) := by
 intro rl J Jx W hset hdrew hgood hY hJ hX
 refine callsIn_of_wp Tryz.func180 rfl trivial ?_ rfl
 simp only [Tryz.ntmps180, List.size_toArray, List.length_cons, List.length_nil, Nat.reduceAdd, Nat.reduceSub, Array.replicate_succ, Array.replicate_zero, List.push_toArray, List.append_toArray, List.nil_append, List.cons_append, Array.append_empty]
 have HSET := Aside0.mk hset
 have HDREW := Aside0.mk hdrew
 have HGOOD := Aside0.mk hgood
 have HY := Aside0.mk hY
 have HC := Aside0.mk hc
 have HJ := Aside0.mk hJ
 have HX := Aside0.mk hX
 obtain ⟨gp, gc⟩ := hgood _ _ hJ
 obtain ⟨L, Ai, ci, Aa, ca, I, e1, e2, e3, e4, e5, e6⟩ := gc.ex
 have x1 : W.cell? ⟨pb, 0, none⟩ = some (.pointer (some ⟨cb, 0, none⟩)) := (blk_cell gp 0).trans rfl
 have x2 : W.cell? ⟨cb, 2, none⟩ = some (.slice Aa (flat l).length ca) := (blk_cell e1 2).trans rfl
 have hwl : wrap64 (((flat l).length : Int) + 1) = ((flat l).length : Int) + 1 := by unfold wrap64; omega
 clear hset hdrew hgood hY hJ hX gp gc e1 e2 e3 e4 e5 e6 hc
 gi_wp2
 obtain ⟨m, hm⟩ : ∃ m, m = (flat l).length := ⟨_, rfl⟩
 have HM := Aside0.mk hm
 gi_loopw [11] (fun i W => ∃ (k : Nat) (x : Int) (p : List Int), i = .int .i64 k ∧ k ≤ m + 1 ∧ (0 ≤ x ∧ x < (m : Int)) ∧ J p W ∧ W.heap[nb]? = some (.cells #[.int .i64 x] 3 (0, 0)) ∧ p ++ chain l (m + 1 - k) x = chain l (m + 1) x0) (fun i _ => m + 1 - (intOf i).toNat)
 case atStart => exact ⟨0, x0, [], rfl, Nat.zero_le _, ⟨h0, by omega⟩, HJ.out, HX.out, rfl⟩
 case round =>
  rw [← hm]
  have hm' : m ≤ 1048576 := by omega
  clear HJ HX x1 x2 hm
  obtain ⟨k, x, p, rfl, hk, ⟨hx0, hx1⟩, hJ, hX, hch⟩ := hrel
  have HJ := Aside0.mk hJ
  have HX := Aside0.mk hX
  have HCH := Aside0.mk hch
  have hnx : wr.cell? ⟨nb, 0, none⟩ = some (.int .i64 x) := (blk_cell hX 0).trans rfl
  clear hch hX
  by_cases hlk : k < m + 1
  ·have kl : (k : Int) < (m : Int) + 1 := by omega
   have hwk : wrap64 ((k : Int) + 1) = (k : Int) + 1 := by unfold wrap64; omega
   obtain ⟨fn, tmps, assign, body, hy, hR⟩ := HY.out p x wr hJ ⟨hx0, by rw [← HM.out]; exact hx1⟩
   clear hJ
   gi_wp2
   refine ⟨fun h => (by cases h), hR.mono ?_⟩
   rintro e w3 (⟨rfl, hJ3, hk3⟩ | ⟨rfl, hJx3⟩)
   ·obtain ⟨gp, gc⟩ := HGOOD.out _ _ hJ3
    obtain ⟨L, Ai, ci, Aa, ca, I, e1, e2, e3, e4, e5, e6⟩ := gc.ex
    have X3 := Aside0.mk (hk3.trans HX.out)
    have J3 := Aside0.mk hJ3
    have P3 := Aside0.mk gp
    have C3 := Aside0.mk e1
    obtain ⟨ae, A1', c1, A3, c3, A4, c4, A5, c5, ea, d0, d1, d2, d3, d4, d5, m1, r1, m3, r3, m4, r4, m5, r5⟩ := at_T123 e5 x hx0 (by rw [← HM.out]; exact hx1)
    subst ea
    have D1 := Aside0.mk d1
    have S1 := Aside0.mk r1
    have T1 : Aside0 (rd_T123 (flat l) x = tyAt l x) := ⟨rfl⟩
    rw [T1.out] at D1 S1
    have SUP := Aside0.mk (tyAt_supers HC.out hx0 (by rw [← HM.out]; exact hx1))
    clear hJ3 hk3 gp gc e1 e2 e3 e4 e5 e6 d0 d1 d2 d3 d4 d5 m1 r1 m3 r3 m4 r4 m5 r5 hy hR hnx T1
    rw [← HM.out] at C3
    obtain ⟨ss, hss⟩ : ∃ ss, ss = (tyAt l x).f1 := ⟨_, rfl⟩
    rw [← hss] at D1 S1 SUP
    have HSS := Aside0.mk hss
    clear hss
    have hxm : x < (m : Int) := hx1
    gi_wp2
    refine wpIn_wide.2 ?_
    refine start_ (n := 9) (S := fun w' => w'.cell? ⟨pb, 0, none⟩ = some (.pointer (some ⟨cb, 0, none⟩)) ∧ w'.cell? ⟨cb, 2, none⟩ = some (.slice (some ae) m ca) ∧ w'.cell? ⟨nb, 0, none⟩ = some (.int .i64 x) ∧ w'.cell? ⟨(ae.add (x.toNat * 6)).block, (ae.add (x.toNat * 6)).off + 1, none⟩ = some (.slice A1' ss.length c1)) (ds := []) (bm_ 9 0) (by kernel_rfl) rfl rfl ⟨(blk_cell P3.out 0).trans rfl, (blk_cell C3.out 2).trans rfl, (blk_cell X3.out 0).trans rfl, D1.out⟩ (fun hHeld => ?_)
    refine tz_ 0 17 9 1 hHeld ?_
    refine pz_ 1 18 9 3 ?_
    refine pz_ 2 19 9 7 ?_
    refine tz_ 3 20 9 15 hHeld ?_
    refine tz_ 4 21 9 31 hHeld ?_
    refine pz_ 5 22 9 63 ?_
    refine pz_ 6 23 9 127 ?_
    refine tz_ 7 24 9 255 hHeld ?_
    refine pz_ 8 4 9 511 ?_
    refine dz_ ?_

    have J4 := Aside0.mk (HDREW.out _ _ J3.out)
    have X4 : Aside0 (w3.drew.heap[nb]? = some (.cells #[.int .i64 x] 3 (0, 0))) := ⟨X3.out⟩
    have S4 : Aside0 ((Kd.int .i64).C w3.drew A1' ss.length ss) := ⟨Kd.C_drew S1.out⟩
    generalize w3.drew = w4 at J4 X4 S4 ⊢
    have hn4 : w4.cell? ⟨nb, 0, none⟩ = some (.int .i64 x) := (blk_cell X4.out 0).trans rfl
    have hf4 : w4.frozen? ⟨nb, 0, none⟩ = false := blk_frozen X4.out 0
    have hk1 : m + 1 - k = (m - k) + 1 := by omega
    have hch := HCH.out
    rw [hk1] at hch
    rcases hz : ss with _ | ⟨y, t⟩
    ·subst hz
     rw [chain_end _ HSS.out.symm] at hch
     have HCE := Aside0.mk hch
     clear hch hn4 hf4
     gi_wp2
     refine bodyPost_ret (results_none rfl _ _ _) rfl ?_
     exact ⟨⟨_, rfl⟩, .inl ⟨_, HM.out ▸ HCE.out, J4.out⟩⟩
    ·subst hz
     rw [chain_on _ HSS.out.symm] at hch
     have HCE := Aside0.mk hch
     clear hch
     obtain ⟨ai, z, eA, hz, hcz⟩ := at_int' S4.out 0 (by simp)
     subst eA
     obtain rfl : y = z := by simpa using hz
     have hy01 := SUP.out y (by simp)
     rw [← HM.out] at hy01
     have X5 := Aside0.mk (blk_set X4.out 0 (.int .i64 y))
     have J5 := Aside0.mk (HSET.out _ _ (.int .i64 y) J4.out)
     have hcz' : w4.cell? ai = some (.int .i64 y) := by have e_ : ai.add 0 = ai := (by simp [Addr.add]); rw [e_] at hcz; exact hcz
     have h0l : (0 : Int) < ((y :: t).length : Int) := by simp
     gi_wp2
     go_roundw
     case rel => exact ⟨k + 1, y, p ++ [x], by go_num, by omega, hy01, J5.out, by simpa using X5.out, by have e_ : m + 1 - (k + 1) = m - k := (by omega); rw [e_, List.append_assoc]; exact HCE.out⟩
     case measure => simp [intOf]; omega
   ·gi_wp2
    refine bodyPost_ret (results_none rfl _ _ _) rfl ?_
    have hch := HCH.out
    have hk1 : m + 1 - k = (m - k) + 1 := by omega
    rw [hk1] at hch
    refine ⟨⟨_, rfl⟩, .inr ⟨p ++ [x], ?_, hJx3⟩⟩
    rw [← HM.out]
    refine ⟨(match (tyAt l x).f1 with | [] => [] | y :: _ => chain l (m - k) y), ?_⟩
    rw [List.append_assoc]
    exact hch
  ·obtain rfl : k = m + 1 := by omega
   have hch := HCH.out
   rw [Nat.sub_self] at hch
   have HCE : Aside0 (p = chain l (m + 1) x0) := ⟨by simpa [chain] using hch⟩
   clear hch hk hlk hnx
   gi_wp2
   go_end0
   exact ⟨⟨_, rfl⟩, .inl ⟨p, HM.out ▸ HCE.out, HJ.out⟩⟩
attribute [local go_sem] Oper.semAt_some
/-- Does the heap type a match b, in a closed list? -/
noncomputable def heapM (l : List S132) (a b : Int) : Bool :=
 if isM l a && isM l b then
  if a < 0 then
   if b < 0 then absM a b else decide (a = -10) && decide (kindOf l b ≠ -1) || decide (a = -2) && decide (kindOf l b = -1)
  else if b < 0 then absM (kindOf l a) b
  else (chain l ((flat l).length + 1) a).any fun x => (oneM l l (x.toNat : Int) (b.toNat : Int)).1
 else false
theorem results_cell1 {fn : Func} {p : Tmp} {ty : TypeId} (h : fn.results = #[.cell p ty]) (tmps : Array Value) (P : Program) (w : World) :
  (results fn tmps).run P w = ((asAddr (tmps.getD p undef)).run P w).andThen fun a w₁ => (loadVar ty a).run P w₁ := by
 simp only [results, h]
 simp [Sem.run_bind, Result.andThen]
theorem heapM_no {l : List S132} {a b : Int} (h : ¬ (isM l a = true ∧ isM l b = true)) : heapM l a b = false := by
 unfold heapM
 rw [if_neg]
 simpa using h
theorem isM_bounds {l : List S132} {h : Int} (hh : isM l h = true) : -12 ≤ h ∧ h < ((flat l).length : Int) := by simpa [isM] using hh
theorem sabove_calls (cb : Nat) (x : Int) (w : World) : Calls Tryz.prog 169 #[.pointer (some ⟨cb, 0, none⟩), .int .i64 x] w fun e w' => e = .returned (.func (.func 180) #[] #[.pointer (some ⟨w.heap.size, 0, none⟩), .pointer (some ⟨w.heap.size + 1, 0, none⟩)]) ∧ w' = (w.alloc (.cells #[.pointer (some ⟨cb, 0, none⟩)] 151)).alloc (.cells #[.int .i64 x] 3) := by
 go_enter Tryz.func169, Tryz.ntmps169
 go_wp2_with fail
 go_ret
 exact ⟨rfl, rfl⟩
theorem heapM_rows {l : List S132} {a b : Int} (ha : isM l a = true) (hb : isM l b = true) (a0 : 0 ≤ a) (b0 : 0 ≤ b) : heapM l a b = true ↔ ∃ x ∈ chain l ((flat l).length + 1) a, SameT l x.toNat b.toNat := by
 unfold heapM
 rw [if_pos (by rw [ha, hb]; rfl), if_neg (by omega), if_neg (by omega)]
 rw [List.any_eq_true]
 exact Iff.rfl
/-- The boxes of context.heap. -/
structure HB (w : World) (cb : Nat) (b : Int) (v : Bool) (W : World) : Prop where
 b0 : W.heap[w.heap.size]? = some (.cells #[.pointer (some ⟨cb, 0, none⟩)] 151 (0, 0))
 b1 : W.heap[w.heap.size + 1]? = some (.cells #[.int .i64 b] 3 (0, 0))
 b2 : W.heap[w.heap.size + 1 + 1]? = some (.cells #[.bool v] 4 (0, 0))
 b3 : W.heap[w.heap.size + 1 + 1 + 1]? = some (.cells #[.pointer (some ⟨cb, 0, none⟩)] 151 (0, 0))
 bel : Below w.heap.size w W
theorem HB.put {w W : World} {cb : Nat} {b : Int} {v : Bool} (h : HB w cb b v W) (l : Nat) (o : Obj) (hl : w.heap.size + 1 + 1 + 1 < l) (hlt : l < W.heap.size) : HB w cb b v (W.putObj l o) :=
 ⟨(World.putObj_heap_other (by omega)).trans h.b0, (World.putObj_heap_other (by omega)).trans h.b1, (World.putObj_heap_other (by omega)).trans h.b2, (World.putObj_heap_other (by omega)).trans h.b3,
  h.bel.grown (grownBy_putObj' W l o) h.bel.size (fun k e => by cases e; omega)⟩
theorem HB.set {w W : World} {cb : Nat} {b : Int} {v : Bool} (h : HB w cb b v W) (l : Nat) (u : Value) (hl : w.heap.size + 1 + 1 + 1 < l) : HB w cb b v (W.setCell ⟨l, 0, none⟩ u) :=
 ⟨blk_far h.b0 (show w.heap.size ≠ l by omega) u, blk_far h.b1 (show w.heap.size + 1 ≠ l by omega) u, blk_far h.b2 (show w.heap.size + 1 + 1 ≠ l by omega) u, blk_far h.b3 (show w.heap.size + 1 + 1 + 1 ≠ l by omega) u, h.bel.trans ((Below.refl _ _).setCell (p := ⟨l, 0, none⟩) (by show w.heap.size ≤ l; omega) u)⟩
theorem HB.store {w W : World} {cb : Nat} {b : Int} {v : Bool} (h : HB w cb b v W) (u : Bool) : HB w cb b u (W.setCell ⟨w.heap.size + 1 + 1, 0, none⟩ (.bool u)) :=
 ⟨blk_far h.b0 (show w.heap.size ≠ w.heap.size + 1 + 1 by omega) _, blk_far h.b1 (show w.heap.size + 1 ≠ w.heap.size + 1 + 1 by omega) _, by have := blk_set h.b2 0 (.bool u); simpa using this, blk_far h.b3 (show w.heap.size + 1 + 1 + 1 ≠ w.heap.size + 1 + 1 by omega) _, h.bel.trans ((Below.refl _ _).setCell (p := ⟨w.heap.size + 1 + 1, 0, none⟩) (by show w.heap.size ≤ w.heap.size + 1 + 1; omega) _)⟩
theorem HB.stays {w : World} {cb : Nat} {b : Int} {v : Bool} {nb B : Nat} (hn : w.heap.size + 1 + 1 + 1 < nb) (hB : w.heap.size + 1 + 1 + 1 < B) (q : Prop) : Stays nb B (fun W => HB w cb b v W ∧ q) where
 put := fun W l o hl hlt h => ⟨h.1.put l o (by omega) hlt, h.2⟩
 set := fun W u h => ⟨h.1.set nb u hn, h.2⟩
 drew := fun W h => ⟨⟨h.1.b0, h.1.b1, h.1.b2, h.1.b3, h.1.bel.drew⟩, h.2⟩
 alloc := fun W o h => ⟨⟨blk_alloc h.1.b0 o, blk_alloc h.1.b1 o, blk_alloc h.1.b2 o, blk_alloc h.1.b3 o, h.1.bel.alloc h.1.bel.size o⟩, h.2⟩
set_option maxHeartbeats 8000000 in
theorem sheap_calls (l : List S132) (hc : Clo l) (cb : Nat) (a b : Int) (w : World) (hctx : Ctx l cb w) (hll : (flat l).length ≤ 1048576) :
  Calls Tryz.prog 153 #[.pointer (some ⟨cb, 0, none⟩), .int .i64 a, .int .i64 b] w fun e w' => e = .returned (.bool (heapM l a b)) ∧ Below w.heap.size w w' := by
 have ba : Below w.heap.size w (((w.alloc (.cells #[.pointer (some ⟨cb, 0, none⟩)] 151)).alloc (.cells #[.int .i64 b] 3)).alloc (.cells #[.bool false] 4)) := ((bz_).alloc (by simp) _).alloc (by simp; omega) _
 have C0 := Aside0.mk (hctx.below ba)
 have B0 := Aside0.mk ba
 have HC := Aside0.mk hc
 have HLL := Aside0.mk hll
 have x0 : (((w.alloc (.cells #[.pointer (some ⟨cb, 0, none⟩)] 151)).alloc (.cells #[.int .i64 b] 3)).alloc (.cells #[.bool false] 4)).heap[w.heap.size]? = some (.cells #[.pointer (some ⟨cb, 0, none⟩)] 151 (0, 0)) := blk_alloc (blk_alloc (blk_new w _) _) _
 have x1 : (((w.alloc (.cells #[.pointer (some ⟨cb, 0, none⟩)] 151)).alloc (.cells #[.int .i64 b] 3)).alloc (.cells #[.bool false] 4)).heap[w.heap.size + 1]? = some (.cells #[.int .i64 b] 3 (0, 0)) := by have h := blk_alloc (blk_new (w.alloc (.cells #[.pointer (some ⟨cb, 0, none⟩)] 151)) (.cells #[.int .i64 b] 3)) (.cells #[.bool false] 4); rw [World.size_alloc] at h; exact h
 have x2 : (((w.alloc (.cells #[.pointer (some ⟨cb, 0, none⟩)] 151)).alloc (.cells #[.int .i64 b] 3)).alloc (.cells #[.bool false] 4)).heap[w.heap.size + 1 + 1]? = some (.cells #[.bool false] 4 (0, 0)) := by have h := blk_new ((w.alloc (.cells #[.pointer (some ⟨cb, 0, none⟩)] 151)).alloc (.cells #[.int .i64 b] 3)) (.cells #[.bool false] 4); rw [World.size_alloc, World.size_alloc] at h; exact h
 have hout : ∀ v : Bool, Below w.heap.size w (((w.alloc (.cells #[.pointer (some ⟨cb, 0, none⟩)] 151)).alloc (.cells #[.int .i64 b] 3)).alloc (.cells #[.bool v] 4)) := fun v => ((bz_).alloc (by simp) _).alloc (by simp; omega) _
 have HOUT := Aside0.mk hout
 have CW := Aside0.mk hctx
 clear ba hctx hc hll hout
 by_cases ha : isM l a = true
 ·by_cases hb : isM l b = true
  ·obtain ⟨ha0, ha1⟩ := isM_bounds ha
   obtain ⟨hb0, hb1⟩ := isM_bounds hb
   by_cases na : a < 0
   ·by_cases nb : b < 0
    ·have EM : Aside0 (heapM l a b = absM a b) := ⟨by unfold heapM; rw [if_pos (by rw [ha, hb]; rfl), if_pos na, if_pos nb]⟩
     have K1 := sis_calls l cb a _ C0.out
     have K2 := sis_calls l cb b _ C0.out
     rw [ha] at K1
     rw [hb] at K2
     have K3 := sabstract_calls a b (((w.alloc (.cells #[.pointer (some ⟨cb, 0, none⟩)] 151)).alloc (.cells #[.int .i64 b] 3)).alloc (.cells #[.bool false] 4)) ha0 na hb0 nb
     rw [← EM.out] at K3
     clear ha hb x0 x1 x2
     go_enter Tryz.func153, Tryz.ntmps153
     go_wp2_with (first | ((with_reducible refine K1.mono ?_); rintro e w1 ⟨rfl, rfl⟩) | ((with_reducible refine K2.mono ?_); rintro e w1 ⟨rfl, rfl⟩) | ((with_reducible refine K3.mono ?_); rintro e w1 ⟨rfl, rfl⟩))
     refine bodyPost_ret (v := .bool (heapM l a b)) ?_ rfl ?_
     ·rw [results_cell1 rfl]; go_simp
     ·exact ⟨rfl, HOUT.out _⟩
    ·have EM : Aside0 (heapM l a b = (decide (a = -10) && decide (kindOf l b ≠ -1) || decide (a = -2) && decide (kindOf l b = -1))) := ⟨by unfold heapM; rw [if_pos (by rw [ha, hb]; rfl), if_pos na, if_neg nb]⟩
     have K1 := sis_calls l cb a _ C0.out
     have K2 := sis_calls l cb b _ C0.out
     rw [ha] at K1
     rw [hb] at K2
     have K3 := skind_calls l cb b _ C0.out (by omega) hb1
     have hk := kindM_in (tyAt l b).f2.f0
     obtain ⟨kb, hkb⟩ : ∃ kb, kb = kindOf l b := ⟨_, rfl⟩
     rw [← hkb] at K3 EM
     replace hk : kb = -1 ∨ kb = -8 ∨ kb = -9 := by rw [hkb]; exact hk
     clear ha hb x0 x1 x2 hkb
     by_cases a10 : a = -10
     ·subst a10
      rcases hk with rfl | rfl | rfl
      all_goals
       go_enter Tryz.func153, Tryz.ntmps153
       go_wp2_with (first | ((with_reducible refine K1.mono ?_); rintro e w1 ⟨rfl, rfl⟩) | ((with_reducible refine K2.mono ?_); rintro e w1 ⟨rfl, rfl⟩) | ((with_reducible refine K3.mono ?_); rintro e w1 ⟨rfl, rfl⟩))
       refine bodyPost_ret (v := .bool (heapM l (-10) b)) ?_ rfl ?_
       ·rw [EM.out, results_cell1 rfl]; go_simp
       ·exact ⟨rfl, HOUT.out _⟩
     ·have e10 : (a == -10) = false := by simp [a10]
      by_cases a2 : a = -2
      ·subst a2
       rcases hk with rfl | rfl | rfl
       all_goals
        go_enter Tryz.func153, Tryz.ntmps153
        go_wp2_with (first | ((with_reducible refine K1.mono ?_); rintro e w1 ⟨rfl, rfl⟩) | ((with_reducible refine K2.mono ?_); rintro e w1 ⟨rfl, rfl⟩) | ((with_reducible refine K3.mono ?_); rintro e w1 ⟨rfl, rfl⟩))
        refine bodyPost_ret (v := .bool (heapM l (-2) b)) ?_ rfl ?_
        ·rw [EM.out, results_cell1 rfl]; go_simp
        ·exact ⟨rfl, HOUT.out _⟩
      ·have e2 : (a == -2) = false := by simp [a2]
       have EF : Aside0 (heapM l a b = false) := ⟨by rw [EM.out]; simp [a10, a2]⟩
       go_enter Tryz.func153, Tryz.ntmps153
       go_wp2_with (first | ((with_reducible refine K1.mono ?_); rintro e w1 ⟨rfl, rfl⟩) | ((with_reducible refine K2.mono ?_); rintro e w1 ⟨rfl, rfl⟩) | ((with_reducible refine K3.mono ?_); rintro e w1 ⟨rfl, rfl⟩))
       refine bodyPost_ret (v := .bool (heapM l a b)) ?_ rfl ?_
       ·rw [EF.out, results_cell1 rfl]; go_simp
       ·exact ⟨rfl, HOUT.out _⟩
   ·by_cases nb : b < 0
    ·have EM : Aside0 (heapM l a b = absM (kindOf l a) b) := ⟨by unfold heapM; rw [if_pos (by rw [ha, hb]; rfl), if_neg na, if_pos nb]⟩
     have K1 := sis_calls l cb a _ C0.out
     have K2 := sis_calls l cb b _ C0.out
     rw [ha] at K1
     rw [hb] at K2
     have hkin := kindM_in (tyAt l a).f2.f0
     have hkin' : kindOf l a = -1 ∨ kindOf l a = -8 ∨ kindOf l a = -9 := hkin
     have HKI := Aside0.mk hkin'
     clear hkin hkin'
     go_enter Tryz.func153, Tryz.ntmps153
     go_wp2_with (first | ((with_reducible refine K1.mono ?_); rintro e w1 ⟨rfl, rfl⟩) | ((with_reducible refine K2.mono ?_); rintro e w1 ⟨rfl, rfl⟩))
     have HA : Aside0 (0 ≤ a ∧ a < ((flat l).length : Int)) := ⟨by omega, ha1⟩
     have HB : Aside0 (-12 ≤ b ∧ b < 0) := ⟨hb0, nb⟩
     have HK0 : Aside0 (-12 ≤ kindOf l a ∧ kindOf l a < 0) := ⟨by rcases HKI.out with h | h | h <;> rw [h] <;> decide⟩
     have Y0 : (World.heap ((((w.alloc (.cells #[.pointer (some ⟨cb, 0, none⟩)] 151)).alloc (.cells #[.int .i64 b] 3)).alloc (.cells #[.bool false] 4)).drew))[w.heap.size]? = some (.cells #[.pointer (some ⟨cb, 0, none⟩)] 151 (0, 0)) := x0
     have Y1 : (World.heap ((((w.alloc (.cells #[.pointer (some ⟨cb, 0, none⟩)] 151)).alloc (.cells #[.int .i64 b] 3)).alloc (.cells #[.bool false] 4)).drew))[w.heap.size + 1]? = some (.cells #[.int .i64 b] 3 (0, 0)) := x1
     have Y2 : (World.heap ((((w.alloc (.cells #[.pointer (some ⟨cb, 0, none⟩)] 151)).alloc (.cells #[.int .i64 b] 3)).alloc (.cells #[.bool false] 4)).drew))[w.heap.size + 1 + 1]? = some (.cells #[.bool false] 4 (0, 0)) := x2
     have C5 : Aside0 (Ctx l cb ((((w.alloc (.cells #[.pointer (some ⟨cb, 0, none⟩)] 151)).alloc (.cells #[.int .i64 b] 3)).alloc (.cells #[.bool false] 4)).drew)) := ⟨C0.out.below ⟨rfl, rfl, rfl, Nat.le_refl _, fun _ _ => rfl⟩⟩
     have B5 : Aside0 (Below w.heap.size w ((((w.alloc (.cells #[.pointer (some ⟨cb, 0, none⟩)] 151)).alloc (.cells #[.int .i64 b] 3)).alloc (.cells #[.bool false] 4)).drew)) := ⟨B0.out.drew⟩
     refine start_ (n := 6) (S := fun w' => w'.cell? ⟨w.heap.size, 0, none⟩ = some (.pointer (some ⟨cb, 0, none⟩)) ∧ w'.cell? ⟨w.heap.size + 1, 0, none⟩ = some (.int .i64 b) ∧ w'.cell? ⟨w.heap.size + 1 + 1, 0, none⟩ = some (.bool false) ∧ w'.frozen? ⟨w.heap.size + 1 + 1, 0, none⟩ = false) (ds := [5]) (bm_ 6 0) (by kernel_rfl) rfl rfl ⟨(blk_cell Y0 0).trans rfl, (blk_cell Y1 0).trans rfl, (blk_cell Y2 0).trans rfl, blk_frozen Y2 0⟩ (fun hHeld => ?_)
     generalize World.drew _ = w5 at Y0 Y1 Y2 C5 B5 hHeld ⊢
     refine pz_ 1 34 6 2 ?_
     refine tz_ 0 33 6 3 hHeld ?_
     refine tz_ 3 36 6 11 hHeld ?_
     refine oz_ 2 35 6 15 fun K hK => ?_
     refine gz_ Tryz.func168 #[.pointer (some ⟨cb, 0, none⟩), .int .i64 a] ?_
     refine (skind_calls l cb a w5 C5.out HA.out.1 HA.out.2).mono ?_
     rintro e w6 ⟨rfl, rfl⟩
     refine ⟨_, rfl, ?_⟩
     refine hK.out _ _ ⟨(blk_cell Y0 0).trans rfl, (blk_cell Y1 0).trans rfl, (blk_cell Y2 0).trans rfl, blk_frozen Y2 0⟩ (fun hHeld => ?_)
     clear hK K
     refine nz_ ?_
     refine oz_ 4 37 6 31 fun K hK => ?_
     refine gz_ Tryz.func167 #[.int .i64 (kindOf l a), .int .i64 b] ?_
     refine (sabstract_calls (kindOf l a) b w6 HK0.out.1 HK0.out.2 HB.out.1 HB.out.2).mono ?_
     rintro e w6 ⟨rfl, rfl⟩
     refine ⟨_, rfl, ?_⟩
     refine hK.out _ _ ⟨(blk_cell Y0 0).trans rfl, (blk_cell Y1 0).trans rfl, (blk_cell Y2 0).trans rfl, blk_frozen Y2 0⟩ (fun hHeld => ?_)
     clear hK K
     refine nz_ ?_
     refine last_ (i := 5) (N := none) (bm_ 6 63) rfl rfl (by kernel_rfl) (by decide) (fun K hK => ?_)
     have hs_ : w6.cell? ⟨w.heap.size + 1 + 1, 0, none⟩ = some (.bool false) := (blk_cell Y2 0).trans rfl
     have hfs_ : w6.frozen? ⟨w.heap.size + 1 + 1, 0, none⟩ = false := blk_frozen Y2 0
     refine sz_ ?_
     refine hK.out _ _ ?_
     clear hK K
     refine dz_ ?_

     have Z2 := blk_set Y2 0 (.bool (absM (kindOf l a) b))
     have zc : (w6.setCell ⟨w.heap.size + 1 + 1, 0, none⟩ (.bool (absM (kindOf l a) b))).cell? ⟨w.heap.size + 1 + 1, 0, none⟩ = some (.bool (absM (kindOf l a) b)) := (blk_cell Z2 0).trans rfl
     have B6 : Below w.heap.size w (w6.setCell ⟨w.heap.size + 1 + 1, 0, none⟩ (.bool (absM (kindOf l a) b))) := B5.out.trans ((Below.refl _ _).setCell (p := ⟨w.heap.size + 1 + 1, 0, none⟩) (by show w.heap.size ≤ w.heap.size + 1 + 1; omega) _)
     go_wp2_with fail
     refine bodyPost_ret (v := .bool (heapM l a b)) ?_ rfl ?_
     ·rw [EM.out, results_cell1 rfl]; go_simp
     ·exact ⟨rfl, B6⟩
    ·have K1 := sis_calls l cb a _ C0.out
     have K2 := sis_calls l cb b _ C0.out
     rw [ha] at K1
     rw [hb] at K2
     have K3 := sabove_calls cb a (((w.alloc (.cells #[.pointer (some ⟨cb, 0, none⟩)] 151)).alloc (.cells #[.int .i64 b] 3)).alloc (.cells #[.bool false] 4))
     refine (callsIn_wide (n := 5)).1 ?_
     refine callsIn_of_wp_marks Tryz.func153 rfl trivial ?_ rfl
     simp only [Tryz.ntmps153, List.size_toArray, List.length_cons, List.length_nil, Nat.reduceAdd, Nat.reduceSub, Array.replicate_succ, Array.replicate_zero, List.push_toArray, List.append_toArray, List.nil_append, List.cons_append]
     gi_wp2_with (refine ⟨trivial, ?_⟩; first | (gi_at_call 166; first | ((with_reducible refine (callsIn_wide.2 K1).mono ?_); rintro e w1 ⟨rfl, rfl⟩) | ((with_reducible refine (callsIn_wide.2 K2).mono ?_); rintro e w1 ⟨rfl, rfl⟩)) | (gi_at_call 169; refine (callsIn_wide.2 K3).mono ?_; rintro e w1 ⟨rfl, rfl⟩))
     obtain ⟨W4, hW4⟩ : ∃ W4, W4 = (((((w.alloc (.cells #[.pointer (some ⟨cb, 0, none⟩)] 151)).alloc (.cells #[.int .i64 b] 3)).alloc (.cells #[.bool false] 4)).alloc (.cells #[.pointer (some ⟨cb, 0, none⟩)] 151)).alloc (.cells #[.int .i64 a] 3)) := ⟨_, rfl⟩
     have hs4 : W4.heap.size = w.heap.size + 1 + 1 + 1 + 1 + 1 := by rw [hW4]; simp
     have hb4 : HB w cb b false W4 := ⟨by rw [hW4]; exact blk_alloc (blk_alloc x0 _) _, by rw [hW4]; exact blk_alloc (blk_alloc x1 _) _, by rw [hW4]; exact blk_alloc (blk_alloc x2 _) _,
      by rw [hW4]; have h := blk_alloc (blk_new (((w.alloc (.cells #[.pointer (some ⟨cb, 0, none⟩)] 151)).alloc (.cells #[.int .i64 b] 3)).alloc (.cells #[.bool false] 4)) (.cells #[.pointer (some ⟨cb, 0, none⟩)] 151)) (.cells #[.int .i64 a] 3); simpa using h,
      by rw [hW4]; exact (B0.out.alloc (by simp; omega) _).alloc (by simp; omega) _⟩
     have hx4 : W4.heap[w.heap.size + 1 + 1 + 1 + 1]? = some (.cells #[.int .i64 a] 3 (0, 0)) := by rw [hW4]; have h := blk_new ((((w.alloc (.cells #[.pointer (some ⟨cb, 0, none⟩)] 151)).alloc (.cells #[.int .i64 b] 3)).alloc (.cells #[.bool false] 4)).alloc (.cells #[.pointer (some ⟨cb, 0, none⟩)] 151)) (.cells #[.int .i64 a] 3); simpa using h
     rw [← hW4]
     have ha' := ha
     have hb' := hb
     clear hW4 K1 K2 K3 x0 x1 x2 C0 B0 HOUT ha hb
     have H4 := Aside0.mk hb4
     have X4 := Aside0.mk hx4
     have S4 := Aside0.mk hs4
     clear hb4 hx4 hs4
     refine range_cell (gf := 180) (lb := #[.pointer (some ⟨w.heap.size + 1 + 1 + 1, 0, none⟩), .pointer (some ⟨w.heap.size + 1 + 1 + 1 + 1, 0, none⟩)]) (nb := w.heap.size + 1 + 1 + 1 + 1) rfl (fun args w => enters_ Tryz.func180 (by kernel_rfl) rfl args w) rfl
      (above_seq l HC.out cb (w.heap.size + 1 + 1 + 1) (w.heap.size + 1 + 1 + 1 + 1) a (by omega) ha1 HLL.out 4) (by rw [S4.out]; omega) X4.out
      (fun p W => HB w cb b false W ∧ ∀ x ∈ p, ¬ SameT l x.toNat b.toNat)
      (fun c p W => c = .ret ∧ HB w cb b true W ∧ ∃ x ∈ p, SameT l x.toNat b.toNat)
      (fun p => HB.stays (by omega) (by rw [S4.out]; omega) _) (fun p W h => ⟨h.1.b3, CW.out.below h.1.bel⟩)
      (fun c p W l_ o hl hlt h => ⟨h.1, h.2.1.put l_ o (by rw [S4.out] at hl; omega) hlt, h.2.2⟩) ⟨H4.out, fun x hx => by cases hx⟩ ?a1 ?assign ?body ?done ?stop
     case assign =>
      intro rl x W K hK
      gi_wp2
      exact hK
     case body =>
      rintro rl p x W ⟨hB, hp⟩ ⟨hx0, hx1⟩
      have HB0 := Aside0.mk hB
      have HP0 := Aside0.mk hp
      obtain ⟨L, Ai, ci, Aa, ca, I, e1, e2, e3, e4, e5, e6⟩ := (CW.out.below hB.bel).ex
      have hIl : I.length = (flat l).length := e6.1
      obtain ⟨ai, v1, eA, g1, q1⟩ := at_int' e4 x.toNat (by omega)
      subst eA
      obtain ⟨ai', v2, eA, g2, q2⟩ := at_int' e4 b.toNat (by omega)
      injection eA with eA
      subst eA
      have y0 : W.cell? ⟨w.heap.size, 0, none⟩ = some (.pointer (some ⟨cb, 0, none⟩)) := (blk_cell hB.b0 0).trans rfl
      have y1 : W.cell? ⟨w.heap.size + 1, 0, none⟩ = some (.int .i64 b) := (blk_cell hB.b1 0).trans rfl
      have y2 : W.cell? ⟨cb, 1, none⟩ = some (.slice (some ai) I.length ci) := (blk_cell e1 1).trans rfl
      have SI : Aside0 (v1 = v2 ↔ SameT l x.toNat b.toNat) := ⟨by rw [← e6.2 x.toNat b.toNat (by omega) (by omega), g1, g2]; simp⟩
      have hxl : x < (I.length : Int) := by omega
      have hbl : b < (I.length : Int) := by omega
      clear e1 e2 e3 e4 e5 e6 hB hp g1 g2 hIl hx1
      gi_wp2
      refine startR_ (by rintro ⟨_, _, h_⟩; exact h_) (by kernel_rfl) (n := 15) (S := fun w' => w'.cell? ⟨w.heap.size, 0, none⟩ = some (.pointer (some ⟨cb, 0, none⟩)) ∧ w'.cell? ⟨w.heap.size + 1, 0, none⟩ = some (.int .i64 b) ∧ w'.cell? ⟨cb, 1, none⟩ = some (.slice (some ai) I.length ci) ∧ w'.cell? (ai.add x.toNat) = some (.int .i64 v1) ∧ w'.cell? (ai.add b.toNat) = some (.int .i64 v2)) (ds := []) #[false, false, false, false, false, false, false, false, false, false, false, false, false, false, false] (by kernel_rfl) rfl rfl ⟨y0, y1, y2, q1, q2⟩ (fun hHeld => ?_)
      refine pz_ 4 66 15 16 ?_
      refine tz_ 0 62 15 17 hHeld ?_
      refine pz_ 1 63 15 19 ?_
      refine pz_ 2 64 15 23 ?_
      refine tz_ 3 65 15 31 hHeld ?_
      refine pz_ 5 67 15 63 ?_
      refine tz_ 6 68 15 127 hHeld ?_
      refine tz_ 7 69 15 255 hHeld ?_
      refine pz_ 8 70 15 511 ?_
      refine pz_ 9 71 15 1023 ?_
      refine tz_ 10 72 15 2047 hHeld ?_
      refine tz_ 11 73 15 4095 hHeld ?_
      refine pz_ 12 74 15 8191 ?_
      refine tz_ 13 75 15 16383 hHeld ?_
      refine pz_ 14 76 15 32767 ?_
      refine dz_ ?_

      have HBD : Aside0 (HB w cb b false W.drew) := ⟨⟨HB0.out.b0, HB0.out.b1, HB0.out.b2, HB0.out.b3, HB0.out.bel.drew⟩⟩
      have ED : Aside0 (W.drew.heap = W.heap) := ⟨rfl⟩
      clear hHeld y0 y1 y2 q1 q2
      generalize W.drew = Wd at HBD ED ⊢
      by_cases hv : v1 = v2
      ·have hbe : (v1 == v2) = true := by simp [hv]
       have z2 : Wd.cell? ⟨w.heap.size + 1 + 1, 0, none⟩ = some (.bool false) := (blk_cell HBD.out.b2 0).trans rfl
       have f2 : Wd.frozen? ⟨w.heap.size + 1 + 1, 0, none⟩ = false := blk_frozen HBD.out.b2 0
       gi_wp2
       refine ⟨⟨?_, fun k hk1 hk2 => ?_⟩, rfl, HBD.out.store true, x, by simp, SI.out.1 hv⟩
       ·rw [← ED.out]; simp
       ·rw [← ED.out]; exact Below.heap_setCell Wd ⟨w.heap.size + 1 + 1, 0, none⟩ _ k (by rw [S4.out] at hk1; show k ≠ w.heap.size + 1 + 1; omega)
      ·have hbe : (v1 == v2) = false := by simp [hv]
       gi_wp2
       refine ⟨⟨by rw [ED.out]; exact Nat.le_refl _, by rw [ED.out], fun k _ _ => by rw [ED.out]⟩, HBD.out, fun y hy => ?_⟩
       rcases List.mem_append.1 hy with hy | hy
       ·exact HP0.out y hy
       ·rw [List.mem_singleton.1 hy]; exact fun hs => hv (SI.out.2 hs)
     case done =>
      rintro D p W hD rfl ⟨hB, hp⟩ hK
      have EF : Aside0 (heapM l a b = false) := ⟨by
       rw [Bool.eq_false_iff]
       intro h
       obtain ⟨x, hx, hs⟩ := (heapM_rows ha' hb' (by omega) (by omega)).1 h
       exact hp x hx hs⟩
      have z2 : W.cell? ⟨w.heap.size + 1 + 1, 0, none⟩ = some (.bool false) := (blk_cell hB.b2 0).trans rfl
      have f2 : W.frozen? ⟨w.heap.size + 1 + 1, 0, none⟩ = false := blk_frozen hB.b2 0
      gi_wp2
      have hB2 := hB.store false
      have hK2 : (W.setCell ⟨w.heap.size + 1 + 1, 0, none⟩ (.bool false)).heap[D]? = some (.deferred (some [])) := (Below.heap_setCell W ⟨w.heap.size + 1 + 1, 0, none⟩ _ D (by rw [S4.out] at hD; show D ≠ w.heap.size + 1 + 1; omega)).trans hK
      have hE := hB2.put D (.deferred none) (by rw [S4.out] at hD; omega) (blk_lt' hK2)
      have zc : ((W.setCell ⟨w.heap.size + 1 + 1, 0, none⟩ (.bool false)).putObj D (.deferred none)).cell? ⟨w.heap.size + 1 + 1, 0, none⟩ = some (.bool false) := (blk_cell hE.b2 0).trans rfl
      refine ⟨by simp, .inl ⟨_, _, rfl, run_takeDeferred hK2, ?_⟩⟩
      refine ⟨.bool false, ?_, by rw [EF.out], hE.bel⟩
      rw [results_cell1 rfl]
      go_simp
     case stop =>
      rintro D c p W hD ⟨t, ht⟩ ⟨rfl, hB, x, hx, hs⟩ hK
      gi_wp2
      have EF : Aside0 (heapM l a b = true) := ⟨(heapM_rows ha' hb' (by omega) (by omega)).2 ⟨x, by rw [← ht]; exact List.mem_append_left _ hx, hs⟩⟩
      have hE := hB.put D (.deferred none) (by rw [S4.out] at hD; omega) (blk_lt' hK)
      have zc : (W.putObj D (.deferred none)).cell? ⟨w.heap.size + 1 + 1, 0, none⟩ = some (.bool true) := (blk_cell hE.b2 0).trans rfl
      refine ⟨by simp, .inl ⟨_, _, rfl, run_takeDeferred hK, ?_⟩⟩
      refine ⟨.bool true, ?_, by rw [EF.out], hE.bel⟩
      rw [results_cell1 rfl]
      go_simp
  ·have EM : Aside0 (heapM l a b = false) := ⟨heapM_no (fun h => hb h.2)⟩
   have fb : isM l b = false := by simpa using hb
   have K1 := sis_calls l cb a _ C0.out
   have K2 := sis_calls l cb b _ C0.out
   rw [ha] at K1
   rw [fb] at K2
   clear ha hb fb
   go_enter Tryz.func153, Tryz.ntmps153
   go_wp2_with (first | ((with_reducible refine K1.mono ?_); rintro e w1 ⟨rfl, rfl⟩) | ((with_reducible refine K2.mono ?_); rintro e w1 ⟨rfl, rfl⟩))
   refine bodyPost_ret (v := .bool false) ?_ rfl ?_
   ·rw [results_cell1 rfl]; go_simp
   ·exact ⟨by rw [EM.out], HOUT.out false⟩
 ·have EM : Aside0 (heapM l a b = false) := ⟨heapM_no (fun h => ha h.1)⟩
  have fa : isM l a = false := by simpa using ha
  have K1 := sis_calls l cb a _ C0.out
  rw [fa] at K1
  clear ha fa
  go_enter Tryz.func153, Tryz.ntmps153
  go_wp2_with ((with_reducible refine K1.mono ?_); rintro e w1 ⟨rfl, rfl⟩)
  refine bodyPost_ret (v := .bool false) ?_ rfl ?_
  ·rw [results_cell1 rfl]; go_simp
  ·exact ⟨by rw [EM.out], HOUT.out false⟩
end Go.Proofs.YtohlmkcgempdlaaGreatDoor.Cn
namespace Go.Proofs.YtohlmkcgempdlaaGreatDoor.Cn
set_option linter.unusedSimpArgs false
set_option maxRecDepth 100000
set_option linter.unusedVariables false
open Go.RowKit Go.Maps Go.Proofs.YtohlmkcgempdlaaGreatDoorW.PrintWords Go.Proofs.YtohlmkcgempdlaaGreatDoorW.PrintLast Go.Proofs.YtohlmkcgempdlaaGreatDoorW.PrintMore Go.Proofs.YtohlmkcgempdlaaGreatDoor.QD
noncomputable def valM (l : List S132) (a b : S39) : Bool := decide (a.f0 = b.f0) && (decide (1 ≤ a.f0) && decide (a.f0 ≤ 7)) && (decide (a.f0 ≠ 5) || (heapM l a.f2 b.f2 && (!a.f1 || b.f1)))
noncomputable def valsM (l : List S132) (a b : List S39) : Bool := decide (a.length = b.length) && (a.zip b).all fun p => valM l p.1 p.2
theorem zip_snoc {α β : Type} {f : α × β → Bool} {us : List α} {vs : List β} {k : Nat} {x : α} {y : β} (hx : us[k]? = some x) (hy : vs[k]? = some y) : ((us.zip vs).take (k + 1)).all f = (((us.zip vs).take k).all f && f (x, y)) := by
 have : (us.zip vs)[k]? = some (x, y) := by exact List.getElem?_zip_eq_some.2 ⟨hx, hy⟩
 rw [List.take_add_one, this, List.all_append]
 simp
theorem zip_stop {α β : Type} {f : α × β → Bool} {us : List α} {vs : List β} {k : Nat} {x : α} {y : β} (hx : us[k]? = some x) (hy : vs[k]? = some y) (h : f (x, y) = false) : (us.zip vs).all f = false := by
 have : (us.zip vs)[k]? = some (x, y) := by exact List.getElem?_zip_eq_some.2 ⟨hx, hy⟩
 rw [List.all_eq_false]
 exact ⟨_, List.mem_of_getElem? this, by rw [h]; simp⟩
set_option maxHeartbeats 4000000 in
theorem sval_plain (p : Option Addr) (l : List S132) (a b : S39) (w : World) (h5 : ¬ (a.f0 = 5 ∧ b.f0 = 5)) :
  Calls Tryz.prog 122 #[.pointer p, .agg #[.int .i64 a.f0, .bool a.f1, .int .i64 a.f2], .agg #[.int .i64 b.f0, .bool b.f1, .int .i64 b.f2]] w fun e w' => e = .returned (.bool (valM l a b)) ∧ Below w.heap.size w w' := by
 obtain ⟨x0, x1, x2⟩ := a
 obtain ⟨y0, y1, y2⟩ := b
 dsimp only at h5 ⊢
 have ba : Below w.heap.size w ((w.alloc (.cells #[.int .i64 x0, .bool x1, .int .i64 x2] 39)).alloc (.cells #[.int .i64 y0, .bool y1, .int .i64 y2] 39)) := (bz_).alloc (by simp) _
 have BA := Aside0.mk ba
 clear ba
 by_cases h1 : x0 = y0
 ·subst h1
  have h4 : ¬ x0 = 5 := fun h => h5 ⟨h, h⟩
  by_cases h2 : 1 ≤ x0
  ·by_cases h3 : x0 ≤ 7
   ·have EM : Aside0 (valM l ⟨x0, x1, x2⟩ ⟨x0, y1, y2⟩ = true) := ⟨by simp [valM, h2, h3, h4]⟩
    have hlt : ¬ x0 < 1 := by omega
    have hgt : ¬ 7 < x0 := by omega
    have hne : (x0 != 5) = true := by simp [h4]
    clear h5
    go_enter Tryz.func122, Tryz.ntmps122
    go_wp2_with fail
    go_ret
    exact ⟨by rw [EM.out]; rfl, BA.out⟩
   ·have EM : Aside0 (valM l ⟨x0, x1, x2⟩ ⟨x0, y1, y2⟩ = false) := ⟨by simp [valM, h2, h3]⟩
    have hlt : ¬ x0 < 1 := by omega
    have hgt : 7 < x0 := by omega
    clear h5
    go_enter Tryz.func122, Tryz.ntmps122
    go_wp2_with fail
    go_ret
    exact ⟨by rw [EM.out]; rfl, BA.out⟩
  ·have EM : Aside0 (valM l ⟨x0, x1, x2⟩ ⟨x0, y1, y2⟩ = false) := ⟨by simp [valM, h2]⟩
   have hlt : x0 < 1 := by omega
   clear h5
   go_enter Tryz.func122, Tryz.ntmps122
   go_wp2_with fail
   go_ret
   exact ⟨by rw [EM.out]; rfl, BA.out⟩
 ·have EM : Aside0 (valM l ⟨x0, x1, x2⟩ ⟨y0, y1, y2⟩ = false) := ⟨by simp [valM, h1]⟩
  have e1 : (x0 != y0) = true := by simp [h1]
  clear h5
  go_enter Tryz.func122, Tryz.ntmps122
  go_wp2_with fail
  go_ret
  exact ⟨by rw [EM.out]; rfl, BA.out⟩
set_option maxHeartbeats 4000000 in
theorem sval_calls (l : List S132) (hc : Clo l) (cb : Nat) (a b : S39) (w : World) (hctx : Ctx l cb w) (hll : (flat l).length ≤ 1048576) :
  Calls Tryz.prog 122 #[.pointer (some ⟨cb, 0, none⟩), .agg #[.int .i64 a.f0, .bool a.f1, .int .i64 a.f2], .agg #[.int .i64 b.f0, .bool b.f1, .int .i64 b.f2]] w fun e w' => e = .returned (.bool (valM l a b)) ∧ Below w.heap.size w w' := by
 by_cases h5 : a.f0 = 5 ∧ b.f0 = 5
 rotate_left
 ·exact sval_plain _ l a b w h5
 obtain ⟨x0, x1, x2⟩ := a
 obtain ⟨y0, y1, y2⟩ := b
 dsimp only at h5 ⊢
 obtain ⟨rfl, rfl⟩ := h5
 have ba : Below w.heap.size w ((w.alloc (.cells #[.int .i64 5, .bool x1, .int .i64 x2] 39)).alloc (.cells #[.int .i64 5, .bool y1, .int .i64 y2] 39)) := (bz_).alloc (by simp) _
 have BA := Aside0.mk ba
 have K := sheap_calls l hc cb x2 y2 _ (hctx.below ba) hll
 obtain ⟨h, hh⟩ : ∃ h, h = heapM l x2 y2 := ⟨_, rfl⟩
 have EM : Aside0 (valM l ⟨5, x1, x2⟩ ⟨5, y1, y2⟩ = (h && (!x1 || y1))) := ⟨by rw [hh]; simp [valM]⟩
 rw [← hh] at K
 clear hctx hc hll ba hh
 go_enter Tryz.func122, Tryz.ntmps122
 go_wp2_with fail
 refine K.mono ?_
 rintro e w1 ⟨rfl, hb⟩
 have B1 : Aside0 (Below w.heap.size w w1) := ⟨BA.out.trans (hb.mono BA.out.size)⟩
 have q0 := blk_below (blk_alloc (blk_new w (.cells #[.int .i64 5, .bool x1, .int .i64 x2] 39)) (.cells #[.int .i64 5, .bool y1, .int .i64 y2] 39)) hb
 have q1 : w1.heap[w.heap.size + 1]? = some (.cells #[.int .i64 5, .bool y1, .int .i64 y2] 39 (0, 0)) := by have h_ := blk_below (blk_new (w.alloc (.cells #[.int .i64 5, .bool x1, .int .i64 x2] 39)) (.cells #[.int .i64 5, .bool y1, .int .i64 y2] 39)) hb; rw [World.size_alloc] at h_; exact h_
 have z0 : w1.cell? ⟨w.heap.size, 1, none⟩ = some (.bool x1) := (blk_cell q0 1).trans rfl
 have z1 : w1.cell? ⟨w.heap.size + 1, 1, none⟩ = some (.bool y1) := (blk_cell q1 1).trans rfl
 clear hb K q0 q1
 cases h <;> cases x1 <;> cases y1 <;>
  (go_wp2_with fail
   go_ret
   exact ⟨by rw [EM.out]; rfl, B1.out⟩)
set_option maxHeartbeats 8000000 in
theorem svals_calls (hb_ : Nat) (l : List S132) (Aa : Option Addr) (ca : Nat) (us : List S39) (Ab : Option Addr) (cb : Nat) (vs : List S39) (w : World) (hl : Ctx l hb_ w) (hll : (flat l).length ≤ 1048576) (hc : Clo l) (hA : Kd.C k39 w Aa us.length us) (hB : Kd.C k39 w Ab vs.length vs) (hn : us.length ≤ 1048576) :
  Calls Tryz.prog 83 #[.pointer (some ⟨hb_, 0, none⟩), .slice Aa us.length ca, .slice Ab vs.length cb] w fun e w' => e = .returned (.bool (valsM l us vs)) ∧ Below w.heap.size w w' := by
 have HL := Aside0.mk hl
 have HC := Aside0.mk hc
 have HLL := Aside0.mk hll
 have HA := Aside0.mk hA
 have HB := Aside0.mk hB
 clear hl hll hc hA hB
 by_cases hlen : us.length = vs.length
 rotate_left
 ·have EM : Aside0 (valsM l us vs = false) := ⟨by simp [valsM, hlen]⟩
  have e1 : ((us.length : Int) != (vs.length : Int)) = true := by simp; omega
  go_enter Tryz.func83, Tryz.ntmps83
  go_wp2_with fail
  go_ret
  exact ⟨by rw [EM.out]; rfl, Below.refl _ _⟩
 have EV : Aside0 (valsM l us vs = (us.zip vs).all fun p => valM l p.1 p.2) := ⟨by simp [valsM, hlen]⟩
 obtain ⟨n, hnn⟩ : ∃ n, n = us.length := ⟨_, rfl⟩
 have NA := Aside0.mk hnn
 have NB : Aside0 (n = vs.length) := ⟨hnn.trans hlen⟩
 rw [← hlen, ← hnn]
 rw [← hnn] at hn
 rw [← NA.out] at HA
 rw [← NB.out] at HB
 clear hnn hlen
 go_enter Tryz.func83, Tryz.ntmps83
 go_wp2_with fail
 go_loopw [15] (fun i W => ∃ (k : Nat), i = .int .i64 k ∧ k ≤ n ∧ ((us.zip vs).take k).all (fun p => valM l p.1 p.2) = true ∧ Below w.heap.size w W) (fun i _ => n - (intOf i).toNat)
 case atStart => exact ⟨0, rfl, Nat.zero_le _, by simp, Below.refl _ _⟩
 case round =>
  obtain ⟨k, rfl, hk, hall, hbw⟩ := hrel
  have W0 := Aside0.mk hbw
  have ALL := Aside0.mk hall
  clear hall hbw
  have k0 : (0 : Int) ≤ (k : Int) := Int.natCast_nonneg k
  by_cases hlk : k < n
  ·obtain ⟨aa, ea, d0, d1, d2⟩ := at_T39 HA.out (k : Int) k0 (by omega)
   obtain ⟨ab, eb, f0, f1, f2⟩ := at_T39 HB.out (k : Int) k0 (by omega)
   subst ea
   subst eb
   have XA : Aside0 (us[k]? = some (rd_T39 us (k : Int))) := ⟨by unfold rd_T39; rw [Int.toNat_natCast, List.getD_eq_getElem?_getD, List.getElem?_eq_getElem (by have := NA.out; omega)]; rfl⟩
   have XB : Aside0 (vs[k]? = some (rd_T39 vs (k : Int))) := ⟨by unfold rd_T39; rw [Int.toNat_natCast, List.getD_eq_getElem?_getD, List.getElem?_eq_getElem (by have := NB.out; omega)]; rfl⟩
   obtain ⟨x, hx⟩ : ∃ x, x = rd_T39 us (k : Int) := ⟨_, rfl⟩
   obtain ⟨y, hy⟩ : ∃ y, y = rd_T39 vs (k : Int) := ⟨_, rfl⟩
   rw [← hx] at d0 d1 d2 XA
   rw [← hy] at f0 f1 f2 XB
   clear hx hy
   simp only [Int.toNat_natCast] at d0 d1 d2 f0 f1 f2
   replace d0 := (W0.out.cell (World.block_lt_of_cell? w _ d0)).trans d0
   replace d1 := (W0.out.cell (World.block_lt_of_cell? w _ d1)).trans d1
   replace d2 := (W0.out.cell (World.block_lt_of_cell? w _ d2)).trans d2
   replace f0 := (W0.out.cell (World.block_lt_of_cell? w _ f0)).trans f0
   replace f1 := (W0.out.cell (World.block_lt_of_cell? w _ f1)).trans f1
   replace f2 := (W0.out.cell (World.block_lt_of_cell? w _ f2)).trans f2
   have kl : (k : Int) < (n : Int) := by omega
   go_wp2_with fail
   refine start_ (n := 11) (S := fun w' => w'.cell? (aa.add (k * 3)) = some (.int .i64 x.f0) ∧ w'.cell? ⟨(aa.add (k * 3)).block, (aa.add (k * 3)).off + 1, none⟩ = some (.bool x.f1) ∧ w'.cell? ⟨(aa.add (k * 3)).block, (aa.add (k * 3)).off + 2, none⟩ = some (.int .i64 x.f2) ∧ w'.cell? (ab.add (k * 3)) = some (.int .i64 y.f0) ∧ w'.cell? ⟨(ab.add (k * 3)).block, (ab.add (k * 3)).off + 1, none⟩ = some (.bool y.f1) ∧ w'.cell? ⟨(ab.add (k * 3)).block, (ab.add (k * 3)).off + 2, none⟩ = some (.int .i64 y.f2)) (ds := []) (bm_ 11 0) (by kernel_rfl) rfl rfl ⟨d0, d1, d2, f0, f1, f2⟩ (fun hHeld => ?_)
   have BD : Aside0 (Below w.heap.size w wr.drew) := ⟨W0.out.drew⟩
   replace d0 : wr.drew.cell? _ = _ := d0
   replace d1 : wr.drew.cell? _ = _ := d1
   replace d2 : wr.drew.cell? _ = _ := d2
   replace f0 : wr.drew.cell? _ = _ := f0
   replace f1 : wr.drew.cell? _ = _ := f1
   replace f2 : wr.drew.cell? _ = _ := f2
   generalize wr.drew = w5 at BD d0 d1 d2 f0 f1 f2 hHeld ⊢
   refine pz_ 0 18 11 1 ?_
   refine pz_ 1 19 11 3 ?_
   refine pz_ 2 20 11 7 ?_
   refine pz_ 3 21 11 15 ?_
   refine pz_ 5 23 11 47 ?_
   refine pz_ 6 24 11 111 ?_
   refine pz_ 7 25 11 239 ?_
   refine tz_ 4 22 11 255 hHeld ?_
   refine tz_ 8 26 11 511 hHeld ?_
   refine oz_ 9 27 11 1023 fun K hK => ?_
   refine gz_ Tryz.func122 #[.pointer (some ⟨hb_, 0, none⟩), .agg #[.int .i64 x.f0, .bool x.f1, .int .i64 x.f2], .agg #[.int .i64 y.f0, .bool y.f1, .int .i64 y.f2]] ?_
   refine (sval_calls l HC.out hb_ x y w5 (HL.out.below BD.out) HLL.out).mono ?_
   rintro e w6 ⟨rfl, hb6⟩
   have B6 := Aside0.mk (BD.out.trans (hb6.mono BD.out.size))
   refine ⟨_, rfl, ?_⟩
   refine hK.out _ _ ⟨(hb6.cell (World.block_lt_of_cell? w5 _ d0)).trans d0, (hb6.cell (World.block_lt_of_cell? w5 _ d1)).trans d1, (hb6.cell (World.block_lt_of_cell? w5 _ d2)).trans d2, (hb6.cell (World.block_lt_of_cell? w5 _ f0)).trans f0, (hb6.cell (World.block_lt_of_cell? w5 _ f1)).trans f1, (hb6.cell (World.block_lt_of_cell? w5 _ f2)).trans f2⟩ (fun hHeld => ?_)
   clear hK K
   refine nz_ ?_
   refine pz_ 10 28 11 2047 ?_
   refine dz_ ?_

   clear d0 d1 d2 f0 f1 f2
   cases hv : valM l x y with
   | false =>
    have EF : Aside0 (valsM l us vs = false) := ⟨by rw [EV.out]; exact zip_stop XA.out XB.out hv⟩
    clear hv
    go_wp2_with fail
    go_ret
    exact ⟨by rw [EF.out]; rfl, B6.out⟩
   | true =>
    have ES : Aside0 (((us.zip vs).take (k + 1)).all (fun p => valM l p.1 p.2) = true) := ⟨by rw [zip_snoc XA.out XB.out, ALL.out, hv]; rfl⟩
    clear hv
    go_wp2_with fail
    go_roundw
    case rel => exact ⟨k + 1, by go_num, by omega, ES.out, B6.out⟩
    case measure => simp [intOf]; omega
  ·obtain rfl : k = n := by omega
   have EF : Aside0 (valsM l us vs = true) := ⟨by
    have h := ALL.out
    rw [List.take_of_length_le (by rw [List.length_zip, ← NA.out, ← NB.out]; omega)] at h
    rw [EV.out]; exact h⟩
   clear hk hlk
   go_wp2_with fail
   go_ret
   exact ⟨by rw [EF.out]; rfl, W0.out⟩
/-- W' is W but for the blocks of M and for new ones. -/
structure Chg (M : Nat → Prop) (W W' : World) : Prop where
 os : W'.os = W.os
 tape : W'.tape = W.tape
 output : W'.output = W.output
 size : W.heap.size ≤ W'.heap.size
 same : ∀ k, k < W.heap.size → ¬ M k → W'.heap[k]? = W.heap[k]?
theorem Chg.refl (M : Nat → Prop) (W : World) : Chg M W W := ⟨rfl, rfl, rfl, Nat.le_refl _, fun _ _ _ => rfl⟩
theorem Chg.trans {M N K : Nat → Prop} {a b c : World} (h : Chg M a b) (k : Chg N b c) (hM : ∀ x, M x → K x ∨ a.heap.size ≤ x) (hN : ∀ x, N x → K x ∨ a.heap.size ≤ x) : Chg K a c :=
 ⟨k.os.trans h.os, k.tape.trans h.tape, k.output.trans h.output, Nat.le_trans h.size k.size, fun x hx hn =>
  have m : ¬ M x := fun e => (hM x e).elim hn (fun l => by omega)
  have n : ¬ N x := fun e => (hN x e).elim hn (fun l => by omega)
  (k.same x (Nat.lt_of_lt_of_le hx h.size) n).trans (h.same x hx m)⟩
theorem Chg.mono {M N : Nat → Prop} {a b : World} (h : Chg M a b) (hM : ∀ x, M x → N x ∨ a.heap.size ≤ x) : Chg N a b := (Chg.refl N a).trans h (fun x e => .inl e) hM
theorem Chg.of_below {W W' : World} (h : Below W.heap.size W W') (M : Nat → Prop) : Chg M W W' := ⟨h.os, h.tape, h.output, h.size, fun k hk _ => h.block k hk⟩
theorem Chg.of_grown {W W' : World} {b : Option Nat} (h : W.grownBy W' b) : Chg (fun k => b = some k) W W' := ⟨h.os, h.tape, h.output, h.size, fun k hk hn => h.block k hk (fun e => hn e.symm)⟩
theorem Chg.blk {M : Nat → Prop} {W W' : World} (h : Chg M W W') {k : Nat} {o : Obj} (hb : W.heap[k]? = some o) (hn : ¬ M k) : W'.heap[k]? = some o :=
 (h.same k (Array.getElem?_eq_some_iff.1 hb).1 hn).trans hb
/-- A block that is open. -/
structure Fr where
 op : Int
 ins : List S39
 outs : List S39
 height : Nat
 sets : List Bool
 dead : Bool
/-- What a checker knows. -/
structure Chk where
 l : List S132
 locals : List S39
 sets : List Bool
 results : List S39
 ops : List S39
 frames : List Fr
def v0 : S39 := ⟨0, false, 0⟩
noncomputable def matM (l : List S132) (a b : S39) : Bool := decide (a.f0 = 0) || (decide (b.f0 = 0) || valM l a b)
/-- The last operand, where the block stands at h. -/
def popM (h : Nat) (dead : Bool) (ops : List S39) : Int × S39 × List S39 :=
 if h < ops.length then (0, ops.getLastD v0, ops.dropLast) else if dead then (0, v0, ops) else (130, v0, ops)
noncomputable def popTM (l : List S132) (h : Nat) (dead : Bool) (ops : List S39) (v : S39) : Int × S39 × List S39 :=
 if (popM h dead ops).1 ≠ 0 then (130, v0, ops) else if matM l (popM h dead ops).2.1 v then popM h dead ops else (131, v0, ops)
/-- Several, the last first (turned round). -/
noncomputable def popsR (l : List S132) (h : Nat) (dead : Bool) : List S39 → List S39 → Int × List S39
 | [], ops => (0, ops)
 | v :: vs, ops => if (popTM l h dead ops v).1 = 0 then popsR l h dead vs (popTM l h dead ops v).2.2 else ((popTM l h dead ops v).1, ops)
noncomputable def popsM (l : List S132) (h : Nat) (dead : Bool) (vs ops : List S39) : Int × List S39 :=
 if (popsR l h dead vs.reverse ops).1 = 0 then popsR l h dead vs.reverse ops else ((popsR l h dead vs.reverse ops).1, ops)
/-- Appending one element to a row that is full, in a region that draws: a row of the call's own. -/
theorem grow_append_step {P : Program} {ops : Array Oper} {o : Oper} {a : Act} {Q : Exit → Act → World → Prop} {Kc : Act → World → Prop} {W : World} (hw : Region.wanted o (yielded ops a.tmps) = true) (s x : Operand) (t e : TypeId) (i : TypeInfo) (z : Value) (size bytes : Nat)
  (hop : o.op = .call { callee := .builtin .append, args := #[s, x], argTypes := #[t, t] })
  (h1 : P.underlying t = some (.slice e)) (h2 : P.info? e = some i) (h3 : i.zero = some z) (h4 : i.size = size) (h5 : i.bytes = bytes) (h6 : z.cells.size = size) (h7 : 0 < size)
  (b : Addr) (n cap : Nat) (olds : List Value) (hs : a.eval s = .slice (some b) n cap) (hlo : olds.length = n * size) (holds : ∀ j u, olds[j]? = some u → W.cell? (b.add j) = some u)
  (ad : Addr) (cs : List Value) (hx : a.eval x = .slice (some ad) 1 1) (hn : cs.length = 1 * size) (hc : ∀ j u, cs[j]? = some u → W.cell? (ad.add j) = some u)
  (hfull : cap < n + 1) (b1 : n + 1 ≤ maxLen) (b2 : (n + 1) * bytes ≤ 140737488355328)
  (h : ∀ v' w', w'.ownsRow W.heap.size e size v' (n + 1) (olds ++ cs) → W.grownBy w' none → Kc (a.put o.dst v') w') :
  if Region.wanted o (yielded ops a.tmps) = true then Oper.wp P o a W Kc Q else Kc (a.put o.dst undef) W := by
 rw [if_pos hw]
 obtain ⟨v', w', hrun, r1, r2⟩ := run_append_arg_grows (P := P) W t o.type e i z size bytes h1 h2 h3 h4 h5 h6 h7 b n cap olds hlo holds ad 1 1 cs hn hc hfull b1 b2
 unfold Oper.wp
 simp [execOp, hop, resolve, invoke, builtin, hs, hx, hrun, Result.andThen]
 exact h v' w' r1 r2
theorem kNone_calls (g : Nat) (w : World) (h : w.cell? ⟨g, 0, none⟩ = some (.bool true)) : Calls Tryz.prog 49 #[.pointer (some ⟨g, 0, none⟩)] w fun e w' => e = .returned (.bool false) ∧ w' = w := by
 go_enter Tryz.func49, Tryz.ntmps49
 go_wp2_with fail
 go_ret
 exact ⟨rfl, rfl⟩
theorem kfSize_calls (g j : Nat) (A : Option Addr) (n c : Nat) (w : World) (h : w.cell? ⟨g, j, none⟩ = some (.slice A n c)) : Calls Tryz.prog 51 #[.pointer (some ⟨g, j, none⟩)] w fun e w' => e = .returned (.int .i64 n) ∧ w' = w := by
 go_enter Tryz.func51, Tryz.ntmps51
 go_wp2_with fail
 go_ret
 exact ⟨rfl, rfl⟩
theorem kvSize_calls (g j : Nat) (A : Option Addr) (n c : Nat) (w : World) (h : w.cell? ⟨g, j, none⟩ = some (.slice A n c)) : Calls Tryz.prog 71 #[.pointer (some ⟨g, j, none⟩)] w fun e w' => e = .returned (.int .i64 n) ∧ w' = w := by
 go_enter Tryz.func71, Tryz.ntmps71
 go_wp2_with fail
 go_ret
 exact ⟨rfl, rfl⟩
theorem kShut_calls (g : Nat) (A : Option Addr) (n c : Nat) (w : World) (h : w.cell? ⟨g, 0, none⟩ = some (.bool true)) (h6 : w.cell? ⟨g, 6, none⟩ = some (.slice A n c)) (hn : 0 < n) : Calls Tryz.prog 42 #[.pointer (some ⟨g, 0, none⟩)] w fun e w' => e = .returned (.int .i64 0) ∧ w' = w := by
 have K1 := kNone_calls g w h
 have K2 := kfSize_calls g 6 A n c w h6
 have hz : ((n : Int) == 0) = false := by simp; omega
 go_enter Tryz.func42, Tryz.ntmps42
 go_wp2_with fail
 refine K1.mono ?_
 rintro e w1 ⟨rfl, rfl⟩
 go_wp2_with fail
 refine K2.mono ?_
 rintro e w1 ⟨rfl, rfl⟩
 go_wp2_with fail
 go_ret
 exact ⟨rfl, rfl⟩
theorem kvCut_calls (g j : Nat) (A : Option Addr) (n c m : Nat) (w : World) (h : w.cell? ⟨g, j, none⟩ = some (.slice A n c)) (hf : w.frozen? ⟨g, j, none⟩ = false) (hm : m ≤ c) (hc : c ≤ 9223372036854775807) :
  Calls Tryz.prog 44 #[.pointer (some ⟨g, j, none⟩), .int .i64 m] w fun e w' => e = .returned (.tuple #[]) ∧ w' = w.setCell ⟨g, j, none⟩ (.slice A m m) := by
 have h1 : ((m : Int) ≤ (c : Int)) = True := by simp; omega
 go_enter Tryz.func44, Tryz.ntmps44
 go_wp2_with fail
 refine bodyPost_end (results_none (by kernel_rfl) _ _ _) rfl ?_
 exact ⟨rfl, rfl⟩
set_option maxHeartbeats 2000000 in
theorem kvTop_calls (g j : Nat) (ad : Addr) (m c : Nat) (w : World) (h : w.cell? ⟨g, j, none⟩ = some (.slice (some ad) (m + 1) c)) (hm : m + 1 ≤ 9223372036854775807) :
  Calls Tryz.prog 118 #[.pointer (some ⟨g, j, none⟩)] w fun e w' => e = .returned (.pointer (some (ad.add (m * 3)))) ∧ Below w.heap.size w w' := by
 have hw : wrap64 (((m + 1 : Nat) : Int) - 1) = (m : Int) := by unfold wrap64; omega
 have hw2 : wrap64 (m : Int) = (m : Int) := by unfold wrap64; omega
 have hb : ((m : Int) < (m : Int) + 1) = True := by simp; omega
 have hb2 : ((m : Int) < ((m + 1 : Nat) : Int)) = True := by simp; omega
 go_enter Tryz.func118, Tryz.ntmps118
 go_wp2_with fail
 refine start_ (n := 12) (S := fun w' => w'.cell? ⟨g, j, none⟩ = some (.slice (some ad) (m + 1) c)) (ds := []) (bm_ 12 0) (by kernel_rfl) rfl rfl (h) (fun hHeld => ?_)
 refine pz_ 0 3 12 1 ?_
 refine pz_ 1 4 12 3 ?_
 refine pz_ 2 5 12 7 ?_
 refine pz_ 4 7 12 23 ?_
 refine pz_ 5 8 12 55 ?_
 refine pz_ 6 9 12 119 ?_
 refine tz_ 3 6 12 127 hHeld ?_
 refine tz_ 7 10 12 255 hHeld ?_
 refine pz_ 8 11 12 511 ?_
 refine pz_ 9 12 12 1023 ?_
 refine pz_ 10 13 12 2047 ?_
 refine pz_ 11 2 12 4095 ?_
 refine dz_ ?_

 go_wp2_with fail
 go_ret
 exact ⟨rfl, (Below.refl _ _).drew⟩
set_option maxHeartbeats 2000000 in
theorem kfTop_calls (g j : Nat) (ad : Addr) (m c : Nat) (w : World) (h : w.cell? ⟨g, j, none⟩ = some (.slice (some ad) (m + 1) c)) (hm : m + 1 ≤ 9223372036854775807) :
  Calls Tryz.prog 43 #[.pointer (some ⟨g, j, none⟩)] w fun e w' => e = .returned (.pointer (some (ad.add (m * 6)))) ∧ Below w.heap.size w w' := by
 have hw : wrap64 (((m + 1 : Nat) : Int) - 1) = (m : Int) := by unfold wrap64; omega
 have hw2 : wrap64 (m : Int) = (m : Int) := by unfold wrap64; omega
 have hb : ((m : Int) < (m : Int) + 1) = True := by simp; omega
 have hb2 : ((m : Int) < ((m + 1 : Nat) : Int)) = True := by simp; omega
 go_enter Tryz.func43, Tryz.ntmps43
 go_wp2_with fail
 refine start_ (n := 12) (S := fun w' => w'.cell? ⟨g, j, none⟩ = some (.slice (some ad) (m + 1) c)) (ds := []) (bm_ 12 0) (by kernel_rfl) rfl rfl (h) (fun hHeld => ?_)
 refine pz_ 0 3 12 1 ?_
 refine pz_ 1 4 12 3 ?_
 refine pz_ 2 5 12 7 ?_
 refine pz_ 4 7 12 23 ?_
 refine pz_ 5 8 12 55 ?_
 refine pz_ 6 9 12 119 ?_
 refine tz_ 3 6 12 127 hHeld ?_
 refine tz_ 7 10 12 255 hHeld ?_
 refine pz_ 8 11 12 511 ?_
 refine pz_ 9 12 12 1023 ?_
 refine pz_ 10 13 12 2047 ?_
 refine pz_ 11 2 12 4095 ?_
 refine dz_ ?_

 go_wp2_with fail
 go_ret
 exact ⟨rfl, (Below.refl _ _).drew⟩
/-- Elements of sz cells stand at A with the capacity c: the front of a row of the call's own (its block is ok); c is the row's, or what is asked ends with them (a cut). -/
def CR (sz e : Nat) (ok : Nat → Prop) (W : World) (A : Option Addr) (c : Nat) (xs : List (List Value)) : Prop :=
 ∃ (ys : List (List Value)) (c0 : Nat), (Kd.raw sz).R e W 0 ok (.slice A ys.length c0) ys ∧ xs = ys.take xs.length ∧ (c = c0 ∧ xs = ys ∨ c = xs.length)
section
variable {sz e : Nat} {ok ok' : Nat → Prop} {W W' : World} {A : Option Addr} {c : Nat} {xs : List (List Value)}
theorem CR.nil (sz e : Nat) (ok : Nat → Prop) (W : World) : CR sz e ok W none 0 [] := ⟨[], 0, Kd.R_nil _ _ _ _ _, rfl, .inl ⟨rfl, rfl⟩⟩
theorem CR.le {ys : List (List Value)} (h : xs = ys.take xs.length) : xs.length ≤ ys.length := by
 have := congrArg List.length h
 rw [List.length_take] at this
 omega
theorem CR.cut (h : CR sz e ok W A c xs) (m : Nat) (hm : m ≤ xs.length) : CR sz e ok W A m (xs.take m) := by
 obtain ⟨ys, c0, h1, h2, h3⟩ := h
 have hl : (xs.take m).length = m := by rw [List.length_take]; omega
 refine ⟨ys, c0, h1, ?_, .inr hl.symm⟩
 rw [hl]
 conv => lhs; rw [h2, List.take_take, Nat.min_eq_left hm]
theorem CR.step (h : CR sz e ok W A c xs) (hm : ∀ k, ok k → k < W.heap.size → W'.heap[k]? = W.heap[k]?) : CR sz e ok W' A c xs := by
 obtain ⟨ys, c0, h1, h2, h3⟩ := h
 exact ⟨ys, c0, Kd.R_step h1 hm, h2, h3⟩
theorem CR.mono (h : CR sz e ok W A c xs) (hm : ∀ k, ok k → ok' k) : CR sz e ok' W A c xs := by
 obtain ⟨ys, c0, h1, h2, h3⟩ := h
 exact ⟨ys, c0, Kd.R_mono h1 hm, h2, h3⟩
theorem own_A {A : Option Addr} {n c : Nat} : (Value.slice A n c).ownBlock = A.map (·.block) := by cases A <;> rfl
theorem CR.tight (h : CR sz e ok W A c xs) : CR sz e (fun k => some k = A.map (·.block)) W A c xs := by
 obtain ⟨ys, c0, h1, h2, h3⟩ := h
 have := Kd.R_tight rfl h1
 rw [own_A] at this
 exact ⟨ys, c0, this, h2, h3⟩
theorem CR.blk (h : CR sz e ok W A c xs) : ∀ k, some k = A.map (·.block) → ok k ∧ k < W.heap.size ∧ ∃ cells, W.heap[k]? = some (.cells cells e (0, 0)) := by
 obtain ⟨ys, c0, h1, h2, h3⟩ := h
 intro k hk
 have e1 : (Value.slice A ys.length c0).ownBlock = some k := by rw [own_A, hk]
 exact ⟨h1.1 k e1, Kd.R_lt h1 k e1, Kd.R_typed h1 k e1⟩
theorem CR.ne (h : CR sz e ok W A c xs) {g t : Nat} {cells : Array Value} (hb : W.heap[g]? = some (.cells cells t (0, 0))) (ht : e ≠ t) : some g ≠ A.map (·.block) := by
 intro he
 obtain ⟨_, _, cs, h1⟩ := h.blk g he
 rw [hb] at h1
 injection h1 with h1
 injection h1 with _ h1
 exact ht h1.symm
theorem CR.reads (h : CR sz e ok W A c xs) : xs.length ≤ c ∧ (Kd.raw sz).C W A xs.length xs := by
 obtain ⟨ys, c0, h1, h2, h3⟩ := h
 obtain ⟨A', c', e, hl, hC⟩ := Kd.R_reads h1
 injection e with e1 e2 e3
 subst e1 e3
 have hle := CR.le h2
 have hx := Kd.C_take hC hle
 rw [← h2] at hx
 refine ⟨?_, hx⟩
 rcases h3 with ⟨rfl, rfl⟩ | rfl
 ·exact hl
 ·exact Nat.le_refl _
theorem CR.cap (h : CR sz e ok W A c xs) : c ≤ 9223372036854775807 := by
 have hr := h.reads.2.2.1
 obtain ⟨ys, c0, h1, h2, h3⟩ := h
 rcases h3 with ⟨rfl, _⟩ | rfl
 ·obtain ⟨_, inner, ho, _⟩ := h1
  rcases ho.2 with ⟨hv, _⟩ | ⟨g, cap, cur, hv, _, _, _, hm, _⟩
  ·injection hv with _ _ hc
   omega
  ·injection hv with _ _ hc
   unfold maxLen at hm
   omega
 ·exact hr
theorem CR.cell (h : CR sz e ok W A c xs) {i j : Nat} {cs : List Value} {u : Value} (hi : xs[i]? = some cs) (hj : cs[j]? = some u) : ∃ ad, A = some ad ∧ W.cell? (ad.add (i * sz + j)) = some u := by
 obtain ⟨_, hC⟩ := h.reads
 obtain ⟨ad, e1, hc⟩ := hC.2.2 (by have := (List.getElem?_eq_some_iff.1 hi).1; omega)
 obtain ⟨c', _, ⟨rfl, _⟩, hcc⟩ := hc i cs hi
 exact ⟨ad, e1, hcc j u hj⟩
theorem CR.fresh {w1 : World} {v : Value} {xs : List (List Value)} (h : (Kd.raw sz).R e w1 0 ok v xs) : ∃ A c, v = .slice A xs.length c ∧ CR sz e ok w1 A c xs := by
 obtain ⟨A, c, rfl⟩ := Kd.R_slice h
 exact ⟨A, c, rfl, xs, c, h, by rw [List.take_length], .inl ⟨rfl, rfl⟩⟩
theorem chg_of_grown {W W1 : World} {o : Option Nat} {ok : Nat → Prop} (h : W.grownBy W1 o) (ho : ∀ k, o = some k → ok k) : Chg ok W W1 := ⟨h.os, h.tape, h.output, h.size, fun k hk hn => h.block k hk (fun e => hn (ho k e.symm))⟩
theorem chg_alloc (M : Nat → Prop) (W : World) (o : Obj) : Chg M W (W.alloc o) := Chg.of_below (bz_) M
theorem raw_of_own {W : World} {b : Nat} {v : Value} {inner : List Value} {xs : List (List Value)} (ho : W.ownsRow b e sz v xs.length inner) (hr : Reps ((Kd.raw sz).M W 0 (fun _ => True)) sz xs inner) (hok : ∀ k, b ≤ k → ok k) : (Kd.raw sz).R e W 0 ok v xs :=
 ⟨fun k hk => hok k (own_base ho k hk), inner, own_weaken ho (Nat.zero_le _), hr⟩
/-- Appending one element, in a region that draws. -/
theorem CR.push_step {P : Program} {ops : Array Oper} {o : Oper} {a : Act} {Q : Exit → Act → World → Prop} {Kc : Act → World → Prop} (hw : Region.wanted o (yielded ops a.tmps) = true) (s x : Operand) (t : TypeId) (z : Value) (bytes : Nat) {cs : List Value}
  (hop : o.op = .call { callee := .builtin .append, args := #[s, x], argTypes := #[t, t] })
  (ht : P.underlying t = some (.slice e)) (hinfo : (P.info? e).map (fun i => (i.zero, i.size, i.bytes)) = some (some z, sz, bytes)) (hz : z.cells.size = sz) (hs0 : 0 < sz) (hb0 : 0 < bytes)
  (h : CR sz e ok W A c xs) (hs : a.eval s = .slice A xs.length c) (hx : a.eval x = .slice (some ⟨W.heap.size, 0, none⟩) 1 1) (hcs : cs.length = sz) (h1c : ∀ u ∈ cs, u.oneCell' = true) (hl : (xs.length + 1) * bytes ≤ 140737488355328)
  (hK : ∀ A' c' w1, CR sz e (fun k => ok k ∨ W.heap.size ≤ k) w1 A' c' (xs ++ [cs]) → Chg (fun k => some k = A.map (·.block) ∧ xs.length ≠ c) W w1 → Kc (a.put o.dst (.slice A' (xs.length + 1) c')) w1) :
  if Region.wanted o (yielded ops a.tmps) = true then Oper.wp P o a (W.alloc (.cells cs.toArray e)) Kc Q else Kc (a.put o.dst undef) (W.alloc (.cells cs.toArray e)) := by
 have hle : xs.length + 1 ≤ 140737488355328 := Nat.le_trans (Nat.le_mul_of_pos_right _ hb0) hl
 have hcr := h
 obtain ⟨ys, c0, h1, h2, h3⟩ := h
 have e1 : (xs ++ [cs]).length = xs.length + 1 := by simp
 have own : c = c0 ∧ xs = ys → (∀ k, some k = A.map (·.block) → xs.length ≠ c) → if Region.wanted o (yielded ops a.tmps) = true then Oper.wp P o a (W.alloc (.cells cs.toArray e)) Kc Q else Kc (a.put o.dst undef) (W.alloc (.cells cs.toArray e)) := by
  rintro ⟨rfl, rfl⟩ hne
  refine Kd.R_append_step (Kd.raw sz) (w0 := W) 0 hw s x t e z bytes hop ht hinfo hz hs0 hb0 (.slice A xs.length c) xs cs cs (fun k => ok k ∨ W.heap.size ≤ k) (fun _ => False) hs hx ⟨rfl, hcs, h1c⟩ (fun _ hk => hk.elim) (fun _ hk => .inr hk) (Kd.R_mono h1 (fun _ hk => .inl hk)) ⟨rfl, rfl, rfl, Nat.le_refl _, fun _ _ => rfl⟩ (Nat.zero_le _) hl ?_
  intro v1 w1 hr hb hg hat
  obtain ⟨A', c', e2, hcr⟩ := CR.fresh hr
  rw [e1] at e2
  subst e2
  exact hK A' c' w1 hcr (chg_of_grown hg (fun k hk => by rw [own_A] at hk; exact ⟨hk.symm, hne k hk.symm⟩))
 by_cases hfull : xs.length = c
 rotate_left
 ·rcases h3 with h3 | h3
  ·exact own h3 (fun _ _ => hfull)
  ·exact absurd h3.symm hfull
 replace h3 := hfull.symm
 cases A with
 | none =>
  obtain ⟨_, inner, ho, hr⟩ := h1
  rcases ho.2 with ⟨hv, _⟩ | ⟨g, cap, cur, hv, _⟩
  ·injection hv with _ hn hc
   have hy : ys = [] := List.eq_nil_of_length_eq_zero hn
   subst hy
   have hx0 : xs = [] := by rw [h2]; simp
   refine own ⟨by rw [h3, hx0, hc]; rfl, hx0⟩ (fun _ e => by cases e)
  ·injection hv with hv
   cases hv
 | some ad =>
  obtain ⟨_, hC⟩ := hcr.reads
  obtain ⟨inner, hR, hcell⟩ := ReadsRow.inner_ hC
  obtain ⟨i0, hi, hzz⟩ := Option.map_eq_some_iff.1 hinfo
  simp only [Prod.mk.injEq] at hzz
  obtain ⟨hz0, hz1, hz2⟩ := hzz
  have hb := (Below.refl W.heap.size W).alloc (Nat.le_refl _) (.cells cs.toArray e)
  refine grow_append_step (W := W.alloc (.cells cs.toArray e)) hw s x t e i0 z sz bytes hop ht hi hz0 hz1 hz2 hz hs0 ad xs.length c inner hs hR.1 (fun j u hu => pw_cell_below hb (hcell j u hu)) ⟨W.heap.size, 0, none⟩ cs hx (by rw [hcs, Nat.one_mul]) (fun j u hu => ?_) (by omega) (by unfold maxLen; omega) hl ?_
  ·rw [Addr.add_lit, Nat.zero_add]
   have h4 := blk_cell (blk_new W (.cells cs.toArray e)) j
   rw [h4, List.getElem?_toArray]
   exact hu
  ·intro v' w' r1 r2
   have hown : (Kd.raw sz).R e w' 0 (fun k => ok k ∨ W.heap.size ≤ k) v' (xs ++ [cs]) := raw_of_own (by rw [e1]; exact r1) ((hR.imp_ (fun _ _ hp => hp)).snoc ⟨rfl, hcs, h1c⟩ hcs) (fun k hk => .inr (by rw [World.size_alloc] at hk; omega))
   obtain ⟨A', c', e2, hcr⟩ := CR.fresh hown
   rw [e1] at e2
   subst e2
   exact hK A' c' w' hcr ((chg_alloc _ W _).trans (chg_of_grown (ok := fun _ => False) r2 (fun k hk => by cases hk)) (fun x h => .inl h) (fun x h => h.elim))
theorem chg_set (W : World) (g j : Nat) (u : Value) : Chg (fun k => k = g) W (W.setCell ⟨g, j, none⟩ u) :=
 ⟨rfl, rfl, rfl, Nat.le_of_eq (World.size_setCell W _ u).symm, fun k _ hn => Below.heap_setCell W ⟨g, j, none⟩ u k hn⟩
theorem CR.set (h : CR sz e ok W A c xs) {g t : Nat} {cells : Array Value} (hb : W.heap[g]? = some (.cells cells t (0, 0))) (ht : e ≠ t) (j : Nat) (u : Value) : CR sz e ok (W.setCell ⟨g, j, none⟩ u) A c xs :=
 (h.tight.step (fun k hk _ => Below.heap_setCell W ⟨g, j, none⟩ u k (fun e => h.ne hb ht (by have e' : k = g := e; rw [← e']; exact hk)))).mono (fun k hk => (h.blk k hk).1)
/-- What a push leaves: the row is one longer; its header stands in cell j of g. -/
def PushOut (sz e : Nat) (ok : Nat → Prop) (g j : Nat) (cells : Array Value) (t : Nat) (A : Option Addr) (xs : List (List Value)) (cs : List Value) (c : Nat) (w : World) (e' : Ending) (w' : World) : Prop :=
 ∃ A' c', e' = .returned (.tuple #[]) ∧ CR sz e (fun k => ok k ∨ w.heap.size ≤ k) w' A' c' (xs ++ [cs]) ∧ w'.heap[g]? = some (.cells (cells.setIfInBounds j (.slice A' (xs.length + 1) c')) t (0, 0)) ∧ Chg (fun k => k = g ∨ some k = A.map (·.block) ∧ xs.length ≠ c) w w'
theorem PushOut.mk {g j t : Nat} {cells : Array Value} {cs : List Value} {w w7 w8 : World} {A' : Option Addr} {c' : Nat} (h0 : CR sz e ok w A c xs) (hbox : w.heap[g]? = some (.cells cells t (0, 0))) (ht : e ≠ t) (hb : Below w.heap.size w w7) (hcr : CR sz e (fun k => ok k ∨ w7.heap.size ≤ k) w8 A' c' (xs ++ [cs])) (hch : Chg (fun k => some k = A.map (·.block) ∧ xs.length ≠ c) w7 w8) :
  PushOut sz e ok g j cells t A xs cs c w (.returned (.tuple #[])) (w8.setCell ⟨g, j, none⟩ (.slice A' (xs.length + 1) c')) := by
 have c1 := (Chg.of_below hb (fun _ => False)).trans (K := fun k => some k = A.map (·.block) ∧ xs.length ≠ c) hch (fun _ e => e.elim) (fun _ e => .inl e)
 have h8 := c1.blk hbox (fun e => h0.ne hbox ht e.1)
 refine ⟨A', c', rfl, (hcr.mono (fun k hk => hk.imp id (fun l => Nat.le_trans hb.size l))).set h8 ht j _, blk_set h8 j _, c1.trans (chg_set w8 g j _) (fun _ e => .inl (.inr e)) (fun _ e => .inl (.inl e))⟩
end
def LK {α : Type} (d : Kd α) (S : Nat → Prop) (w : World) (v : Value) (xs : List α) : Prop := Kd.V d 0 w 0 (fun k => ¬ S k) v xs
section
variable {α : Type} {d : Kd α} {S S' N : Nat → Prop} {w w' : World} {v : Value} {xs : List α}
theorem LK.to (h : LK d S w v xs) (c : Chg N w w') (hN : ∀ x, N x → S x ∨ w.heap.size ≤ x) (hS : ∀ x, S' x → S x ∨ w.heap.size ≤ x) : LK d S' w' v xs :=
 Kd.V_mono (Kd.V_step (Kd.V_bound h) (fun k hk hl => c.same k hl (fun e => (hN k e).elim hk.1 (fun l => by omega)))) (fun k hk e => (hS k e).elim hk.1 (fun l => by have := hk.2; omega))
theorem LK.below (h : LK d S w v xs) (hb : Below w.heap.size w w') : LK d S w' v xs := Kd.V_below h hb
theorem LK.nil (d : Kd α) (S : Nat → Prop) (w : World) : LK d S w (.slice none 0 0) [] := Kd.V_nil d 0 w 0 _
theorem LK.mk {A : Option Addr} {c : Nat} (hl : xs.length ≤ c) (hf : Kd.F d w (fun k => ¬ S k) A xs.length xs) : LK d S w (.slice A xs.length c) xs := ⟨A, c, rfl, hl, hf⟩
theorem LK.slice (h : LK d S w v xs) : ∃ A c, v = .slice A xs.length c := Kd.V_slice h
theorem LK.reads {A : Option Addr} {n c : Nat} (h : LK d S w (.slice A n c) xs) : n = xs.length ∧ n ≤ c ∧ d.C w A xs.length xs := Kd.V_reads' h
theorem LK.F {A : Option Addr} {n c : Nat} (h : LK d S w (.slice A n c) xs) : Kd.F d w (fun k => ¬ S k) A n xs := Kd.V_F h
theorem LK.mono (h : LK d S w v xs) (hS : ∀ x, S' x → S x) : LK d S' w v xs := Kd.V_mono h (fun k hk e => hk (hS k e))
/-- A row that was made just now. -/
theorem LK.fresh {e b : Nat} {ok : Nat → Prop} (h : d.R e w b ok v xs) (hS : ∀ x, S x → x < b) : LK d S w v xs := by
 have h1 := Kd.R_V (base' := 0) (Kd.R_bound h)
 have h2 : Kd.V d 0 w 0 (fun k => ok k ∧ b ≤ k ∧ k < w.heap.size ∧ ∃ q, q ∈ e :: d.E ∧ ∃ cells, w.heap[k]? = some (.cells cells q (0, 0))) v xs := h1
 exact Kd.V_mono h2 (fun k hk e => by have := hk.2.1; have := hS k e; omega)
/-- What came in. -/
theorem LK.lent (hd : Kd.Heap d) {w0 : World} {A : Option Addr} {c : Nat} (hl : xs.length ≤ c) (h : d.C w0 A xs.length xs) (hb : Below w0.heap.size w0 w) (hS : ∀ x, S x → w0.heap.size ≤ x) : LK d S w (.slice A xs.length c) xs :=
 Kd.V_mono (Kd.V_below (v := .slice A xs.length c) ⟨A, c, rfl, hl, Kd.C_F hd h⟩ hb) (fun k hk e => by have := hS k e; omega)
end
def cVT (x : S39) : List Value := [.int .i64 x.f0, .bool x.f1, .int .i64 x.f2]
def Fr.p (x : Fr) : S105 := ⟨x.op, x.ins, x.outs, x.height, x.sets, x.dead⟩
/-- The row of frames: its block is ok, what the frames lead to is sh. -/
def FmR (ok sh : Nat → Prop) (W : World) (A : Option Addr) (c : Nat) (xs : List Fr) : Prop :=
 ∃ rows, rows.length = xs.length ∧ CR 6 105 ok W A c rows ∧ ∀ (j : Nat) (x : Fr) (cs : List Value), xs[j]? = some x → rows[j]? = some cs → Kd.FK k105 W sh x.p cs
theorem FmR.step {ok sh : Nat → Prop} {W W' : World} {A : Option Addr} {c : Nat} {xs : List Fr} (h : FmR ok sh W A c xs) (hm : ∀ k, ok k ∨ sh k → k < W.heap.size → W'.heap[k]? = W.heap[k]?) : FmR ok sh W' A c xs := by
 obtain ⟨rows, hl, hr, hf⟩ := h
 exact ⟨rows, hl, hr.step (fun k hk => hm k (.inl hk)), fun j x cs hx hc => Kd.FK_step (hf j x cs hx hc) (fun k hk => hm k (.inr hk))⟩
theorem FmR.mono {ok ok' sh sh' : Nat → Prop} {W : World} {A : Option Addr} {c : Nat} {xs : List Fr} (h : FmR ok sh W A c xs) (h1 : ∀ k, ok k → ok' k) (h2 : ∀ k, sh k → k < W.heap.size → sh' k) : FmR ok' sh' W A c xs := by
 obtain ⟨rows, hl, hr, hf⟩ := h
 exact ⟨rows, hl, hr.mono h1, fun j x cs hx hc => Kd.FK_mono (Kd.FK_bound (hf j x cs hx hc)) (fun k hk => h2 k hk.1 hk.2)⟩
theorem FmR.tight {ok sh : Nat → Prop} {W : World} {A : Option Addr} {c : Nat} {xs : List Fr} (h : FmR ok sh W A c xs) : FmR (fun k => some k = A.map (·.block)) sh W A c xs := by
 obtain ⟨rows, hl, hr, hf⟩ := h
 exact ⟨rows, hl, hr.tight, hf⟩
theorem below_chg {N : Nat → Prop} {W W' : World} {B : Nat} (c : Chg N W W') (hB : B ≤ W.heap.size) (hN : ∀ x, N x → B ≤ x) : Below B W W' := ⟨c.os, c.tape, c.output, c.size, fun k hk => c.same k (by omega) (fun e => by have := hN k e; omega)⟩
/-- A checker k at g: S: the blocks that it writes; D: those that others write; v1..v4, ao, co, af, cf: what stands in its box. -/
structure StV (D S : Nat → Prop) (g : Nat) (k : Chk) (W : World) (v1 v2 v3 v4 : Value) (ao : Option Addr) (co : Nat) (af : Option Addr) (cf : Nat) : Prop where
 box : W.heap[g]? = some (.cells #[.bool true, v1, v2, v3, v4, .slice ao k.ops.length co, .slice af k.frames.length cf] 102 (0, 0))
 lst : LK k132 (fun x => S x ∨ D x) W v1 k.l
 loc : LK k39 (fun x => S x ∨ D x) W v2 k.locals
 set : LK Kd.bool (fun x => S x ∨ D x) W v3 k.sets
 res : LK k39 (fun x => S x ∨ D x) W v4 k.results
 ops : CR 3 39 S W ao co (k.ops.map cVT)
 frs : FmR S (fun x => ¬ (S x ∨ D x)) W af cf k.frames
 own : S g
 lt : ∀ x, S x ∨ D x → x < W.heap.size
 apart : ∀ x, S x → ¬ D x
 tab : ∃ B, (∀ x, S x ∨ D x → B ≤ x) ∧ B ≤ W.heap.size ∧ Lib.TabBelow Tryz.prog B W "internal/strconv.uint64pow10" .u64 Lib.pow10Tab
/-- A checker k at g. -/
def St (D S : Nat → Prop) (g : Nat) (k : Chk) (W : World) : Prop := ∃ v1 v2 v3 v4 ao co af cf, StV D S g k W v1 v2 v3 v4 ao co af cf
section
variable {D S N S' : Nat → Prop} {g : Nat} {k k' : Chk} {W W' : World} {v1 v2 v3 v4 v3' : Value} {ao ao' : Option Addr} {co co' : Nat} {af af' : Option Addr} {cf cf' : Nat}
theorem StV.chg (h : StV D S g k W v1 v2 v3 v4 ao co af cf) (c : Chg N W W') (hN : ∀ x, N x → D x ∨ W.heap.size ≤ x) : StV D S g k W' v1 v2 v3 v4 ao co af cf := by
 have hN' : ∀ x, N x → (S x ∨ D x) ∨ W.heap.size ≤ x := fun x hx => (hN x hx).elim (fun h1 => .inl (.inr h1)) .inr
 have nS : ∀ x, S x → ¬ N x := fun x hx hn => (hN x hn).elim (h.apart x hx) (fun l => by have := h.lt x (.inl hx); omega)
 refine ⟨c.blk h.box (nS g h.own), h.lst.to c hN' (fun x e => .inl e), h.loc.to c hN' (fun x e => .inl e), h.set.to c hN' (fun x e => .inl e), h.res.to c hN' (fun x e => .inl e), h.ops.step (fun x hx hl => c.same x hl (nS x hx)), h.frs.step (fun x hx hl => c.same x hl ?_), h.own, fun x hx => Nat.lt_of_lt_of_le (h.lt x hx) c.size, h.apart, ?_⟩
 rotate_left
 ·obtain ⟨B, b1, b2, b3⟩ := h.tab
  exact ⟨B, b1, Nat.le_trans b2 c.size, b3.on (below_chg c b2 (fun x hx => (hN' x hx).elim (b1 x) (fun l => by omega)))⟩
 rcases hx with hx | hx
 ·exact nS x hx
 ·exact fun hn => (hN' x hn).elim hx (fun l => by omega)
theorem StV.below (h : StV D S g k W v1 v2 v3 v4 ao co af cf) (hb : Below W.heap.size W W') : StV D S g k W' v1 v2 v3 v4 ao co af cf := h.chg (Chg.of_below hb (fun _ => False)) (fun _ e => e.elim)
/-- Behind a change of the operands, of the frames. -/
theorem StV.out (h : StV D S g k W v1 v2 v3 v4 ao co af cf) (c : Chg S W W') (hS : ∀ x, S x → S' x) (hG : ∀ x, S' x → S x ∨ W.heap.size ≤ x) (hlt : ∀ x, S' x → x < W'.heap.size) (e1 : k'.l = k.l) (e2 : k'.locals = k.locals) (e3 : k'.results = k.results)
  (hs : LK Kd.bool (fun x => S' x ∨ D x) W' v3' k'.sets)
  (box : W'.heap[g]? = some (.cells #[.bool true, v1, v2, v3', v4, .slice ao' k'.ops.length co', .slice af' k'.frames.length cf'] 102 (0, 0))) (ops : CR 3 39 S' W' ao' co' (k'.ops.map cVT)) (frs : FmR S' (fun x => ¬ (S' x ∨ D x)) W' af' cf' k'.frames) : StV D S' g k' W' v1 v2 v3' v4 ao' co' af' cf' := by
 have hN : ∀ x, S x → (S x ∨ D x) ∨ W.heap.size ≤ x := fun x hx => .inl (.inl hx)
 have hS' : ∀ x, S' x ∨ D x → (S x ∨ D x) ∨ W.heap.size ≤ x := fun x hx => hx.elim (fun e => (hG x e).elim (fun a => .inl (.inl a)) .inr) (fun e => .inl (.inr e))
 refine ⟨box, by rw [e1]; exact h.lst.to c hN hS', by rw [e2]; exact h.loc.to c hN hS', hs, by rw [e3]; exact h.res.to c hN hS', ops, frs, hS g h.own, fun x hx => hx.elim (hlt x) (fun e => Nat.lt_of_lt_of_le (h.lt x (.inr e)) c.size), fun x hx hd => (hG x hx).elim (fun a => h.apart x a hd) (fun l => by have := h.lt x (.inr hd); omega), ?_⟩
 obtain ⟨B, b1, b2, b3⟩ := h.tab
 exact ⟨B, fun x hx => (hS' x hx).elim (b1 x) (fun l => by omega), Nat.le_trans b2 c.size, b3.on (below_chg c b2 (fun x hx => b1 x (.inl hx)))⟩
/-- The frames stand where only blocks of S of other types were written. -/
theorem StV.frs_step (h : StV D S g k W v1 v2 v3 v4 ao co af cf) (c : Chg N W W') (hN : ∀ x, N x → S x) (hT : ∀ x, some x = af.map (·.block) → ¬ N x) (hS : ∀ x, S x → S' x) (hG : ∀ x, S' x → S x ∨ W.heap.size ≤ x) : FmR S' (fun x => ¬ (S' x ∨ D x)) W' af cf k.frames := by
 have hb : ∀ x, some x = af.map (·.block) → S x := fun x hx => by
  obtain ⟨rows, _, hr, _⟩ := h.frs
  exact (hr.blk x hx).1
 have h1 : FmR (fun x => some x = af.map (·.block)) (fun x => ¬ (S x ∨ D x) ∧ x < W.heap.size) W af cf k.frames := h.frs.tight.mono (fun _ e => e) (fun x e l => ⟨e, l⟩)
 refine (h1.step (fun x hx hl => c.same x hl ?_)).mono (fun x hx => hS x (hb x hx)) (fun x hx _ e => ?_)
 ·rcases hx with hx | hx
  ·exact hT x hx
  ·exact fun hn => hx.1 (.inl (hN x hn))
 ·exact e.elim (fun e => (hG x e).elim (fun a => hx.1 (.inl a)) (fun l => by have := hx.2; omega)) (fun e => hx.1 (.inr e))
theorem StV.ops_step (h : StV D S g k W v1 v2 v3 v4 ao co af cf) (c : Chg N W W') (hT : ∀ x, some x = ao.map (·.block) → ¬ N x) (hS : ∀ x, S x → S' x) : CR 3 39 S' W' ao co (k.ops.map cVT) :=
 (h.ops.tight.step (fun x hx hl => c.same x hl (hT x hx))).mono (fun x hx => hS x (h.ops.blk x hx).1)
theorem StV.af_ne (h : StV D S g k W v1 v2 v3 v4 ao co af cf) : ∀ x, some x = af.map (·.block) → x ≠ g ∧ some x ≠ ao.map (·.block) := by
 obtain ⟨rows, _, hr, _⟩ := h.frs
 intro x hx
 refine ⟨fun e => hr.ne h.box (by decide) (by rw [← e]; exact hx), fun e => ?_⟩
 obtain ⟨_, _, cs, h1⟩ := h.ops.blk x e
 exact hr.ne h1 (by decide) hx
theorem St.tab (h : St D S g k W) : Lib.TabBelow Tryz.prog W.heap.size W "internal/strconv.uint64pow10" .u64 Lib.pow10Tab := by
 obtain ⟨_, _, _, _, _, _, _, _, h⟩ := h
 obtain ⟨B, b1, b2, b3⟩ := h.tab
 exact fun w' hb => b3 w' ⟨hb.os, hb.tape, hb.output, hb.size, fun x hx => hb.block x (Nat.lt_of_lt_of_le hx b2)⟩
theorem St.lt (h : St D S g k W) : ∀ x, S x ∨ D x → x < W.heap.size := by
 obtain ⟨_, _, _, _, _, _, _, _, h⟩ := h
 exact h.lt
theorem StV.ao_ne (h : StV D S g k W v1 v2 v3 v4 ao co af cf) : ∀ x, some x = ao.map (·.block) → x ≠ g := fun x hx e => h.ops.ne h.box (by decide) (by rw [← e]; exact hx)
/-- From the checker at w to the checker k' at w'. -/
structure Kst (D S : Nat → Prop) (g : Nat) (w : World) (k' : Chk) (S' : Nat → Prop) (w' : World) : Prop where
 sub : ∀ x, S x → S' x
 grow : ∀ x, S' x → S x ∨ w.heap.size ≤ x
 st : St D S' g k' w'
 chg : Chg S w w'
theorem Kst.refl (h : St D S g k W) : Kst D S g W k S W := ⟨fun _ e => e, fun _ e => .inl e, h, Chg.refl S W⟩
theorem Kst.trans {w w1 w2 : World} {S1 S2 : Nat → Prop} {k1 k2 : Chk} (a : Kst D S g w k1 S1 w1) (b : Kst D S1 g w1 k2 S2 w2) : Kst D S g w k2 S2 w2 :=
 ⟨fun x e => b.sub x (a.sub x e), fun x e => (b.grow x e).elim (a.grow x) (fun l => .inr (Nat.le_trans a.chg.size l)), b.st, a.chg.trans b.chg (fun _ e => .inl e) a.grow⟩
theorem St.below (h : St D S g k W) (hb : Below W.heap.size W W') : St D S g k W' := by
 obtain ⟨v1, v2, v3, v4, ao, co, af, cf, h⟩ := h
 exact ⟨v1, v2, v3, v4, ao, co, af, cf, h.below hb⟩
theorem Kst.below {w w1 w2 : World} {S1 : Nat → Prop} {k1 : Chk} (a : Kst D S g w k1 S1 w1) (hb : Below w1.heap.size w1 w2) : Kst D S g w k1 S1 w2 :=
 a.trans ⟨fun _ e => e, fun _ e => .inl e, a.st.below hb, Chg.of_below hb _⟩
/-- Ahead, something was made. -/
theorem Kst.ahead {w0 w w1 : World} {S1 : Nat → Prop} {k1 : Chk} (hb : Below w0.heap.size w0 w) (a : Kst D S g w k1 S1 w1) : Kst D S g w0 k1 S1 w1 :=
 ⟨a.sub, fun x e => (a.grow x e).imp id (fun l => Nat.le_trans hb.size l), a.st, (Chg.of_below hb (fun _ => False)).trans a.chg (fun _ e => e.elim) (fun _ e => .inl e)⟩
/-- A block of the call's own, that will be written: others' for a while. -/
theorem StV.more {p : Nat} (h : StV D S g k W v1 v2 v3 v4 ao co af cf) (hb : Below W.heap.size W W') (hp : W.heap.size ≤ p) (hp1 : p < W'.heap.size) : StV (fun x => D x ∨ x = p) S g k W' v1 v2 v3 v4 ao co af cf := by
 have c := Chg.of_below hb (fun _ => False)
 have hN : ∀ x, False → (S x ∨ D x) ∨ W.heap.size ≤ x := fun _ e => e.elim
 have hS : ∀ x, S x ∨ (D x ∨ x = p) → (S x ∨ D x) ∨ W.heap.size ≤ x := fun x e => e.elim (fun e => .inl (.inl e)) (fun e => e.elim (fun e => .inl (.inr e)) (fun e => .inr (by omega)))
 refine ⟨blk_below h.box hb, h.lst.to c hN hS, h.loc.to c hN hS, h.set.to c hN hS, h.res.to c hN hS, h.ops.step (fun x _ hl => hb.block x hl), ?_, h.own, fun x e => ?_, fun x e => ?_, ?_⟩
 ·exact (h.frs.mono (sh' := fun x => ¬ (S x ∨ D x) ∧ x < W.heap.size) (fun _ e => e) (fun x e l => ⟨e, l⟩)).step (fun x _ hl => hb.block x hl) |>.mono (fun _ e => e) (fun x e _ e2 => (hS x e2).elim e.1 (fun l => by have := e.2; omega))
 ·exact (hS x e).elim (fun e => Nat.lt_of_lt_of_le (h.lt x e) hb.size) (fun l => e.elim (fun e => Nat.lt_of_lt_of_le (h.lt x (.inl e)) hb.size) (fun e => e.elim (fun e => Nat.lt_of_lt_of_le (h.lt x (.inr e)) hb.size) (fun e => by omega)))
 ·exact fun e2 => e2.elim (h.apart x e) (fun e3 => by have := h.lt x (.inl e); omega)
 ·obtain ⟨B, b1, b2, b3⟩ := h.tab
  exact ⟨B, fun x e => (hS x e).elim (b1 x) (fun l => by omega), Nat.le_trans b2 hb.size, b3.on ⟨hb.os, hb.tape, hb.output, hb.size, fun x hx => hb.block x (by omega)⟩⟩
theorem St.more {p : Nat} (h : St D S g k W) (hb : Below W.heap.size W W') (hp : W.heap.size ≤ p) (hp1 : p < W'.heap.size) : St (fun x => D x ∨ x = p) S g k W' := by
 obtain ⟨v1, v2, v3, v4, ao, co, af, cf, h⟩ := h
 exact ⟨v1, v2, v3, v4, ao, co, af, cf, h.more hb hp hp1⟩
theorem StV.less {D' : Nat → Prop} (h : StV D' S g k W v1 v2 v3 v4 ao co af cf) (hD : ∀ x, D x → D' x) : StV D S g k W v1 v2 v3 v4 ao co af cf := by
 have hS : ∀ x, S x ∨ D x → S x ∨ D' x := fun x e => e.imp id (hD x)
 refine ⟨h.box, h.lst.mono hS, h.loc.mono hS, h.set.mono hS, h.res.mono hS, h.ops, h.frs.mono (fun _ e => e) (fun x e _ e2 => e (hS x e2)), h.own, fun x e => h.lt x (hS x e), fun x e d => h.apart x e (hD x d), ?_⟩
 obtain ⟨B, b1, b2, b3⟩ := h.tab
 exact ⟨B, fun x e => b1 x (hS x e), b2, b3⟩
theorem St.less {D' : Nat → Prop} (h : St D' S g k W) (hD : ∀ x, D x → D' x) : St D S g k W := by
 obtain ⟨v1, v2, v3, v4, ao, co, af, cf, h⟩ := h
 exact ⟨v1, v2, v3, v4, ao, co, af, cf, h.less hD⟩
theorem St.chg {N : Nat → Prop} (h : St D S g k W) (c : Chg N W W') (hN : ∀ x, N x → D x ∨ W.heap.size ≤ x) : St D S g k W' := by
 obtain ⟨v1, v2, v3, v4, ao, co, af, cf, h⟩ := h
 exact ⟨v1, v2, v3, v4, ao, co, af, cf, h.chg c hN⟩
/-- A result's cell p, made first and written last. -/
theorem Kst.cell {p : Nat} {w0 w w1 w2 : World} {S1 N : Nat → Prop} {k1 : Chk} (hb : Below w0.heap.size w0 w) (hp : w0.heap.size ≤ p) (a : Kst (fun x => D x ∨ x = p) S g w k1 S1 w1) (c : Chg N w1 w2) (hN : ∀ x, N x → x = p) : Kst D S g w0 k1 S1 w2 := by
 refine ⟨a.sub, fun x e => (a.grow x e).imp id (fun l => Nat.le_trans hb.size l), (a.st.chg c (fun x e => .inl (.inr (hN x e)))).less (fun x e => .inl e), ?_⟩
 exact ((Chg.of_below hb (fun _ => False)).trans (K := S) a.chg (fun _ e => e.elim) (fun _ e => .inl e)).trans c (fun _ e => .inl e) (fun x e => .inr (by rw [hN x e]; exact hp))
theorem LK.kst {α : Type} {d : Kd α} {w w' : World} {v : Value} {xs : List α} (h : LK d (fun x => S x ∨ D x) w v xs) (q : Kst D S g w k' S' w') : LK d (fun x => S' x ∨ D x) w' v xs :=
 h.to q.chg (fun x e => .inl (.inl e)) (fun x e => e.elim (fun e => (q.grow x e).imp .inl id) (fun e => .inl (.inr e)))
/-- Of the checker's box the operands alone were written; C: what stands there then. -/
def KG (D S : Nat → Prop) (g : Nat) (v1 v2 v3 v4 : Value) (af : Option Addr) (cf : Nat) (C : Option Addr → Nat → Prop) (k' : Chk) (w w' : World) : Prop :=
 ∃ S' ao' co', (∀ x, S x → S' x) ∧ (∀ x, S' x → S x ∨ w.heap.size ≤ x) ∧ StV D S' g k' w' v1 v2 v3 v4 ao' co' af cf ∧ Chg (fun x => x = g) w w' ∧ C ao' co'
theorem KG.kst {w w' : World} {C : Option Addr → Nat → Prop} (hg : S g) (h : KG D S g v1 v2 v3 v4 af cf C k' w w') : ∃ S', Kst D S g w k' S' w' := by
 obtain ⟨S', ao', co', h1, h2, h3, h4, _⟩ := h
 exact ⟨S', h1, h2, ⟨_, _, _, _, _, _, _, _, h3⟩, h4.mono (fun x e => .inl (by rw [e]; exact hg))⟩
theorem KG.cell {p : Nat} {w0 w w1 w2 : World} {S1 N : Nat → Prop} {C : Option Addr → Nat → Prop} (hb : Below w0.heap.size w0 w) (hp : w0.heap.size ≤ p) (h : StV (fun x => D x ∨ x = p) S1 g k' w1 v1 v2 v3 v4 ao' co' af cf) (h1 : ∀ x, S x → S1 x) (h2 : ∀ x, S1 x → S x ∨ w.heap.size ≤ x) (hc : Chg (fun x => x = g) w w1) (c : Chg N w1 w2) (hN : ∀ x, N x → x = p) (hC : C ao' co') : KG D S g v1 v2 v3 v4 af cf C k' w0 w2 := by
 refine ⟨S1, ao', co', h1, fun x e => (h2 x e).imp id (fun l => Nat.le_trans hb.size l), (h.chg c (fun x e => .inl (.inr (hN x e)))).less (fun x e => .inl e), ?_, hC⟩
 exact ((Chg.of_below hb (fun _ => False)).trans (K := fun x => x = g) hc (fun _ e => e.elim) (fun _ e => .inl e)).trans c (fun _ e => .inl e) (fun x e => .inr (by rw [hN x e]; exact hp))
def KOut (D S : Nat → Prop) (g : Nat) (k' : Chk) (val : Value) (w : World) (e : Ending) (w' : World) : Prop := e = .returned val ∧ ∃ S', Kst D S g w k' S' w'
end
theorem info105 : (Tryz.prog.info? 105).map (fun i => (i.zero, i.size, i.bytes)) = some (some (.agg #[.int .i64 0, .slice none 0 0, .slice none 0 0, .int .i64 0, .slice none 0 0, .bool false]), 6, 96) := by kernel_rfl
set_option maxHeartbeats 2000000 in
theorem kvPush_calls (ok : Nat → Prop) (g j : Nat) (cells : Array Value) (t : Nat) (x : S39) (A : Option Addr) (c : Nat) (xs : List (List Value)) (w : World) (hbox : w.heap[g]? = some (.cells cells t (0, 0))) (hj : cells[j]? = some (.slice A xs.length c)) (hcr : CR 3 39 ok w A c xs) (ht : 39 ≠ t) (hl : xs.length ≤ 4294967296) :
  Calls Tryz.prog 72 #[.pointer (some ⟨g, j, none⟩), .agg #[.int .i64 x.f0, .bool x.f1, .int .i64 x.f2]] w (PushOut 3 39 ok g j cells t A xs [.int .i64 x.f0, .bool x.f1, .int .i64 x.f2] c w) := by
 have HBOX := Aside0.mk hbox
 have HJ := Aside0.mk hj
 have HCR := Aside0.mk hcr
 have HL : Aside0 ((xs.length + 1) * 24 ≤ 140737488355328) := ⟨by omega⟩
 have HT := Aside0.mk ht
 clear hbox hj hcr hl ht
 go_enter Tryz.func72, Tryz.ntmps72
 go_wp2_with fail
 obtain ⟨w7, hw7⟩ : ∃ w7, w7 = World.drew (w.alloc (.cells #[.int .i64 x.f0, .bool x.f1, .int .i64 x.f2] 39)) := ⟨_, rfl⟩
 have B7 : Aside0 (Below w.heap.size w w7) := ⟨by rw [hw7]; exact (bz_).drew⟩
 have HB7 : Aside0 (w7.heap[w.heap.size]? = some (.cells #[.int .i64 x.f0, .bool x.f1, .int .i64 x.f2] 39 (0, 0))) := ⟨by rw [hw7]; exact blk_new w _⟩
 have G7 : Aside0 (w7.heap[g]? = some (.cells cells t (0, 0))) := ⟨blk_below HBOX.out B7.out⟩
 have C7 : Aside0 (CR 3 39 ok w7 A c xs) := ⟨HCR.out.step (fun k _ hk => B7.out.block k hk)⟩
 have hS7 : w7.cell? ⟨g, j, none⟩ = some (.slice A xs.length c) := (blk_cell G7.out j).trans HJ.out
 have hb0 : w7.cell? ⟨w.heap.size, 0, none⟩ = some (.int .i64 x.f0) := (blk_cell HB7.out 0).trans rfl
 have hb1 : w7.cell? ⟨w.heap.size, 1, none⟩ = some (.bool x.f1) := (blk_cell HB7.out 1).trans rfl
 have hb2 : w7.cell? ⟨w.heap.size, 2, none⟩ = some (.int .i64 x.f2) := (blk_cell HB7.out 2).trans rfl
 have A7 := Aside0.mk (And.intro ((blk_cell (blk_alloc G7.out (.cells #[.int .i64 x.f0, .bool x.f1, .int .i64 x.f2] 39)) j).trans HJ.out) (blk_alloc HB7.out (.cells #[.int .i64 x.f0, .bool x.f1, .int .i64 x.f2] 39)))
 skip
 refine start_ (n := 11) (S := fun w' => w'.cell? ⟨g, j, none⟩ = some (.slice A xs.length c) ∧ w'.cell? ⟨w.heap.size, 0, none⟩ = some (.int .i64 x.f0) ∧ w'.cell? ⟨w.heap.size, 1, none⟩ = some (.bool x.f1) ∧ w'.cell? ⟨w.heap.size, 2, none⟩ = some (.int .i64 x.f2)) (ds := [10]) (bm_ 11 0) (by kernel_rfl) rfl rfl ⟨(by rw [← hw7]; exact hS7), (by rw [← hw7]; exact hb0), (by rw [← hw7]; exact hb1), (by rw [← hw7]; exact hb2)⟩ (fun hHeld => ?_)
 rw [← hw7] at hHeld ⊢
 clear hw7
 refine pz_ 0 4 11 1 ?_
 refine pz_ 1 5 11 3 ?_
 refine pz_ 2 6 11 7 ?_
 refine pz_ 3 7 11 15 ?_
 refine tz_ 4 8 11 31 hHeld ?_
 refine tz_ 5 9 11 63 hHeld ?_
 refine oz_ 6 10 11 127 fun K hK => ?_
 refine vz_ ?_
 refine hK.out _ _ ⟨A7.out.1, (blk_cell A7.out.2 0).trans rfl, (blk_cell A7.out.2 1).trans rfl, (blk_cell A7.out.2 2).trans rfl⟩ (fun hHeld => ?_)
 clear hK K
 refine nz_ ?_
 refine oz_ 7 11 11 255 fun K hK => ?_
 refine CR.push_step (ok := ok) (A := A) (c := c) (xs := xs) (by rfl) (.tmp 8) (.tmp 10) 27 (.agg #[.int .i64 0, .bool false, .int .i64 0]) 24 (cs := [.int .i64 x.f0, .bool x.f1, .int .i64 x.f2]) rfl Tryz.underlying27 info39 rfl (by decide) (by decide) C7.out rfl rfl rfl (by simp [Value.oneCell']) HL.out ?_
 intro A' c' w8 hcr hch
 have PO := Aside0.mk (PushOut.mk (j := j) HCR.out HBOX.out HT.out B7.out hcr hch)
 have G8 := Aside0.mk (hch.blk G7.out (fun e => C7.out.ne G7.out HT.out e.1))
 have N8 := Aside0.mk (hch.blk HB7.out (fun e => by have := (HCR.out.blk _ e.1).2.1; omega))
 clear hcr hch
 refine hK.out _ _ ⟨(blk_cell G8.out j).trans HJ.out, (blk_cell N8.out 0).trans rfl, (blk_cell N8.out 1).trans rfl, (blk_cell N8.out 2).trans rfl⟩ (fun hHeld => ?_)
 clear hK K
 refine nz_ ?_
 refine pz_ 8 12 11 511 ?_
 refine pz_ 9 13 11 1023 ?_
 refine last_ (i := 10) (N := none) (bm_ 11 2047) rfl rfl (by kernel_rfl) (by decide) (fun K hK => ?_)
 have hs_ : w8.cell? ⟨g, j, none⟩ = some (.slice A xs.length c) := (blk_cell G8.out j).trans HJ.out
 have hfs_ : w8.frozen? ⟨g, j, none⟩ = false := blk_frozen G8.out j
 refine sz_ ?_
 refine hK.out _ _ ?_
 clear hK K
 refine dz_ ?_

 go_wp2_with fail
 refine bodyPost_end (results_none (by kernel_rfl) _ _ _) rfl ?_
 exact PO.out
set_option maxHeartbeats 2000000 in
theorem kfPush_calls (ok : Nat → Prop) (g j : Nat) (cells : Array Value) (t : Nat) (op h : Int) (dead : Bool) (A1 A2 A3 : Option Addr) (n1 n2 n3 c1 c2 c3 : Nat) (A : Option Addr) (c : Nat) (xs : List (List Value)) (w : World) (hbox : w.heap[g]? = some (.cells cells t (0, 0))) (hj : cells[j]? = some (.slice A xs.length c)) (hcr : CR 6 105 ok w A c xs) (ht : 105 ≠ t) (hl : xs.length ≤ 4294967296) :
  Calls Tryz.prog 65 #[.pointer (some ⟨g, j, none⟩), .agg #[.int .i64 op, .slice A1 n1 c1, .slice A2 n2 c2, .int .i64 h, .slice A3 n3 c3, .bool dead]] w (PushOut 6 105 ok g j cells t A xs [.int .i64 op, .slice A1 n1 c1, .slice A2 n2 c2, .int .i64 h, .slice A3 n3 c3, .bool dead] c w) := by
 have HBOX := Aside0.mk hbox
 have HJ := Aside0.mk hj
 have HCR := Aside0.mk hcr
 have HL : Aside0 ((xs.length + 1) * 96 ≤ 140737488355328) := ⟨by omega⟩
 have HT := Aside0.mk ht
 clear hbox hj hcr hl ht
 go_enter Tryz.func65, Tryz.ntmps65
 go_wp2_with fail
 obtain ⟨w7, hw7⟩ : ∃ w7, w7 = World.drew (w.alloc (.cells #[.int .i64 op, .slice A1 n1 c1, .slice A2 n2 c2, .int .i64 h, .slice A3 n3 c3, .bool dead] 105)) := ⟨_, rfl⟩
 have B7 : Aside0 (Below w.heap.size w w7) := ⟨by rw [hw7]; exact (bz_).drew⟩
 have HB7 : Aside0 (w7.heap[w.heap.size]? = some (.cells #[.int .i64 op, .slice A1 n1 c1, .slice A2 n2 c2, .int .i64 h, .slice A3 n3 c3, .bool dead] 105 (0, 0))) := ⟨by rw [hw7]; exact blk_new w _⟩
 have G7 : Aside0 (w7.heap[g]? = some (.cells cells t (0, 0))) := ⟨blk_below HBOX.out B7.out⟩
 have C7 : Aside0 (CR 6 105 ok w7 A c xs) := ⟨HCR.out.step (fun k _ hk => B7.out.block k hk)⟩
 have hS7 : w7.cell? ⟨g, j, none⟩ = some (.slice A xs.length c) := (blk_cell G7.out j).trans HJ.out
 have hb0 : w7.cell? ⟨w.heap.size, 0, none⟩ = some (.int .i64 op) := (blk_cell HB7.out 0).trans rfl
 have hb1 : w7.cell? ⟨w.heap.size, 1, none⟩ = some (.slice A1 n1 c1) := (blk_cell HB7.out 1).trans rfl
 have hb2 : w7.cell? ⟨w.heap.size, 2, none⟩ = some (.slice A2 n2 c2) := (blk_cell HB7.out 2).trans rfl
 have hb3 : w7.cell? ⟨w.heap.size, 3, none⟩ = some (.int .i64 h) := (blk_cell HB7.out 3).trans rfl
 have hb4 : w7.cell? ⟨w.heap.size, 4, none⟩ = some (.slice A3 n3 c3) := (blk_cell HB7.out 4).trans rfl
 have hb5 : w7.cell? ⟨w.heap.size, 5, none⟩ = some (.bool dead) := (blk_cell HB7.out 5).trans rfl
 have A7 := Aside0.mk (And.intro ((blk_cell (blk_alloc G7.out (.cells #[.int .i64 op, .slice A1 n1 c1, .slice A2 n2 c2, .int .i64 h, .slice A3 n3 c3, .bool dead] 105)) j).trans HJ.out) (blk_alloc HB7.out (.cells #[.int .i64 op, .slice A1 n1 c1, .slice A2 n2 c2, .int .i64 h, .slice A3 n3 c3, .bool dead] 105)))
 skip
 refine start_ (n := 11) (S := fun w' => w'.cell? ⟨g, j, none⟩ = some (.slice A xs.length c) ∧ w'.cell? ⟨w.heap.size, 0, none⟩ = some (.int .i64 op) ∧ w'.cell? ⟨w.heap.size, 1, none⟩ = some (.slice A1 n1 c1) ∧ w'.cell? ⟨w.heap.size, 2, none⟩ = some (.slice A2 n2 c2) ∧ w'.cell? ⟨w.heap.size, 3, none⟩ = some (.int .i64 h) ∧ w'.cell? ⟨w.heap.size, 4, none⟩ = some (.slice A3 n3 c3) ∧ w'.cell? ⟨w.heap.size, 5, none⟩ = some (.bool dead)) (ds := [10]) (bm_ 11 0) (by kernel_rfl) rfl rfl ⟨(by rw [← hw7]; exact hS7), (by rw [← hw7]; exact hb0), (by rw [← hw7]; exact hb1), (by rw [← hw7]; exact hb2), (by rw [← hw7]; exact hb3), (by rw [← hw7]; exact hb4), (by rw [← hw7]; exact hb5)⟩ (fun hHeld => ?_)
 rw [← hw7] at hHeld ⊢
 clear hw7
 refine pz_ 0 4 11 1 ?_
 refine pz_ 1 5 11 3 ?_
 refine pz_ 2 6 11 7 ?_
 refine pz_ 3 7 11 15 ?_
 refine tz_ 4 8 11 31 hHeld ?_
 refine tz_ 5 9 11 63 hHeld ?_
 refine oz_ 6 10 11 127 fun K hK => ?_
 refine vz_ ?_
 refine hK.out _ _ ⟨A7.out.1, (blk_cell A7.out.2 0).trans rfl, (blk_cell A7.out.2 1).trans rfl, (blk_cell A7.out.2 2).trans rfl, (blk_cell A7.out.2 3).trans rfl, (blk_cell A7.out.2 4).trans rfl, (blk_cell A7.out.2 5).trans rfl⟩ (fun hHeld => ?_)
 clear hK K
 refine nz_ ?_
 refine oz_ 7 11 11 255 fun K hK => ?_
 refine CR.push_step (ok := ok) (A := A) (c := c) (xs := xs) (by rfl) (.tmp 8) (.tmp 10) 98 (.agg #[.int .i64 0, .slice none 0 0, .slice none 0 0, .int .i64 0, .slice none 0 0, .bool false]) 96 (cs := [.int .i64 op, .slice A1 n1 c1, .slice A2 n2 c2, .int .i64 h, .slice A3 n3 c3, .bool dead]) rfl Tryz.underlying98 info105 rfl (by decide) (by decide) C7.out rfl rfl rfl (by simp [Value.oneCell']) HL.out ?_
 intro A' c' w8 hcr hch
 have PO := Aside0.mk (PushOut.mk (j := j) HCR.out HBOX.out HT.out B7.out hcr hch)
 have G8 := Aside0.mk (hch.blk G7.out (fun e => C7.out.ne G7.out HT.out e.1))
 have N8 := Aside0.mk (hch.blk HB7.out (fun e => by have := (HCR.out.blk _ e.1).2.1; omega))
 clear hcr hch
 refine hK.out _ _ ⟨(blk_cell G8.out j).trans HJ.out, (blk_cell N8.out 0).trans rfl, (blk_cell N8.out 1).trans rfl, (blk_cell N8.out 2).trans rfl, (blk_cell N8.out 3).trans rfl, (blk_cell N8.out 4).trans rfl, (blk_cell N8.out 5).trans rfl⟩ (fun hHeld => ?_)
 clear hK K
 refine nz_ ?_
 refine pz_ 8 12 11 511 ?_
 refine pz_ 9 13 11 1023 ?_
 refine last_ (i := 10) (N := none) (bm_ 11 2047) rfl rfl (by kernel_rfl) (by decide) (fun K hK => ?_)
 have hs_ : w8.cell? ⟨g, j, none⟩ = some (.slice A xs.length c) := (blk_cell G8.out j).trans HJ.out
 have hfs_ : w8.frozen? ⟨g, j, none⟩ = false := blk_frozen G8.out j
 refine sz_ ?_
 refine hK.out _ _ ?_
 clear hK K
 refine dz_ ?_

 go_wp2_with fail
 refine bodyPost_end (results_none (by kernel_rfl) _ _ _) rfl ?_
 exact PO.out
theorem info132 : (Tryz.prog.info? 132).map (fun i => (i.zero, i.size, i.bytes)) = some (some (.agg #[.slice none 0 0, .bool false]), 2, 32) := by kernel_rfl
theorem info123 : (Tryz.prog.info? 123).map (fun i => (i.zero, i.size, i.bytes)) = some (some (.agg #[.bool false, .slice none 0 0, .int .i64 0, .slice none 0 0, .slice none 0 0, .slice none 0 0]), 6, 112) := by kernel_rfl
theorem run_copy_sz {P : Program} (w : World) (dT sT ty elem : TypeId) (sz b o dLen dCap : Nat) (a : Addr) (sLen sCap : Nat) (cs : List Value) (hu : P.underlying dT = some (.slice elem)) (hs : (P.info? elem).map (·.size) = some sz) (hn : cs.length = Nat.min sLen dLen * sz)
  (hsrc : ∀ j v, cs[j]? = some v → w.cell? (a.add j) = some v) (hc : ∀ j, j < cs.length → (w.cell? ⟨b, o + j, none⟩).isSome = true) (hf : ∀ j, j < cs.length → w.frozen? ⟨b, o + j, none⟩ = false) (h1 : ∀ v ∈ cs, v.oneCell' = true) :
  (Builtin.copy_ #[dT, sT] ty #[.slice (some ⟨b, o, none⟩) dLen dCap, .slice (some a) sLen sCap]).run P w = .ok (goInt (Nat.min sLen dLen : Nat)) (w.setCells b o cs) := by
 have hl := run_loadCells_list (P := P) w a cs hsrc
 have hst := run_storeCells_cells (P := P) b o cs 0 w (by simpa using hc) (by simpa using hf) h1
 cases hq : P.info? elem with
 | none => simp [hq] at hs
 | some i =>
  have hi : i.size = sz := by simpa [hq] using hs
  rw [hn] at hl
  simp [Builtin.copy_, run_underlying hu, Builtin.lenOf, Builtin.firstCells, sizeOf, typeInfo, hq, hi, hl, hst]
theorem run_copy_no {P : Program} (w : World) (dT sT ty elem : TypeId) (sz : Nat) (d a : Option Addr) (dCap sCap : Nat) (hu : P.underlying dT = some (.slice elem)) (hs : (P.info? elem).map (·.size) = some sz) :
  (Builtin.copy_ #[dT, sT] ty #[.slice d 0 dCap, .slice a 0 sCap]).run P w = .ok (goInt 0) w := by
 cases hq : P.info? elem with
 | none => simp [hq] at hs
 | some i =>
  have hl : ∀ (x : Addr), (loadCells x 0).run P w = .ok #[] w := fun x => by simpa using run_loadCells_list (P := P) w x [] (by simp)
  cases d <;> cases a <;> simp [Builtin.copy_, run_underlying hu, Builtin.lenOf, Builtin.firstCells, sizeOf, typeInfo, hq, storeCells, hl]
/-- copy(v, x) where both have as many elements: v's are x's then. -/
theorem raw_copy {P : Program} {ops : Array Oper} {rest : List Oper} {o : Oper} {a : Act} {Q : Exit → Act → World → Prop} {W : World} {sz e b : Nat} {ok : Nat → Prop} (hgd : o.guard = none) (s x : Operand) (t t' : TypeId)
  (ho : o.op = .call { callee := .builtin .copy, args := #[s, x], argTypes := #[t, t'] }) (ht : P.underlying t = some (.slice e)) (hinfo : (P.info? e).map (·.size) = some sz)
  (v : Value) (xs ys : List (List Value)) (A : Option Addr) (m c : Nat) (hs : a.eval s = v) (hx : a.eval x = .slice A m c) (HO : (Kd.raw sz).R e W b ok v xs) (HR : (Kd.raw sz).C W A m ys) (hm : xs.length = m)
  (h : ∀ w1, (Kd.raw sz).R e w1 b ok v ys → W.grownBy w1 v.ownBlock → wpList P ops Q rest (a.put o.dst (.int .i64 m)) w1) : wpList P ops Q (o :: rest) a W := by
 have hym : ys.length = m := HR.1
 have hinn : ∀ (l : List (List Value)) (inner : List Value), Reps ((Kd.raw sz).M W b (fun k => ok k ∧ some k ≠ v.ownBlock)) sz l inner → ∀ u ∈ inner, u.oneCell' = true := by
  intro l inner hr u hu
  obtain ⟨j, hj, rfl⟩ := List.getElem_of_mem hu
  rcases Nat.eq_zero_or_pos sz with h0 | hp
  ·have := hr.1
   rw [h0] at this
   omega
  have hjs : j / sz < l.length := by
   have := hr.1
   rw [this] at hj
   exact (Nat.div_lt_iff_lt_mul hp).2 hj
  obtain ⟨he, hc, h1⟩ := hr.2 (j / sz) _ (List.getElem?_eq_getElem hjs)
  refine h1 _ ?_
  have hmod := Nat.div_add_mod j sz
  have hlt := Nat.mod_lt j hp
  have : (((inner.drop (j / sz * sz)).take sz))[j % sz]? = some inner[j] := by
   rw [List.getElem?_take, if_pos hlt, List.getElem?_drop, show j / sz * sz + j % sz = j by rw [Nat.mul_comm]; exact hmod, List.getElem?_eq_getElem hj]
  exact List.mem_of_getElem? this
 have fin : ∀ w1, (Builtin.copy_ #[t, t'] o.type #[v, .slice A m c]).run P W = .ok (goInt (m : Nat)) w1 → (Kd.raw sz).R e w1 b ok v ys → W.grownBy w1 v.ownBlock → wpList P ops Q (o :: rest) a W := by
  intro w1 hr hrow hg
  refine wpList_plain hgd fun K hK => ?_
  unfold Oper.wp execOp
  simp only [ho, resolve, invoke, builtin, Sem.run_bind, Sem.run_pure, Result.andThen_ok, List.map_toArray, List.map_cons, List.map_nil, hs, hx, hr]
  exact hK _ _ (h w1 hrow hg)
 rcases Nat.eq_zero_or_pos m with h0 | hp
 ·subst h0
  obtain ⟨A', c', hv⟩ := Kd.R_slice HO
  rw [hm] at hv
  subst hv
  have e1 : xs = [] := List.eq_nil_of_length_eq_zero hm
  have e2 : ys = [] := List.eq_nil_of_length_eq_zero hym
  subst e1 e2
  exact fin W (run_copy_no W t t' o.type e sz A' A c' c ht hinfo) HO (World.grownBy.refl W _)
 ·obtain ⟨ad, hA, _⟩ := HR.2.2 hp
  subst hA
  obtain ⟨inner, hR, hcell⟩ := ReadsRow.inner_ HR
  obtain ⟨hok, inner0, ho0, hr0⟩ := HO
  have hR' : Reps ((Kd.raw sz).M W b (fun k => ok k ∧ some k ≠ v.ownBlock)) sz ys inner := hR.imp_ (fun _ _ hp => hp)
  rcases ho0.2 with ⟨_, hx0⟩ | ⟨g, cap, cur, hv, hb, hh, hnc, hcm, hcs, htake⟩
  ·omega
  subst hv
  have hil : inner.length = m * sz := by have h_ := hR.1; rw [hym] at h_; exact h_
  have hfit : inner.length ≤ cur.size := by rw [hil, hcs, ← hm]; exact Nat.mul_le_mul_right sz hnc
  have hr := run_copy_sz (P := P) W t t' o.type e sz g 0 xs.length cap ad m c inner ht hinfo (by rw [hil, hm]; simp) hcell
   (fun j hj => by rw [cell_of_row W g _ cur e (0, 0) hh]; simp; omega) (fun j _ => blk_frozen hh _) (hinn ys inner hR')
  obtain ⟨cur', h3, h4, h5⟩ := setCells_row inner 0 W cur hh (by omega)
  obtain ⟨s1, s2, s3, s4⟩ := setCells_same g inner 0 W
  refine fin (W.setCells g 0 inner) (by rw [hr, hm]; simp) ⟨hok, inner, ?_, hR'⟩ ⟨s1, s2, s3, by rw [s4]; exact Nat.le_refl _, fun k _ hk => setCells_far _ _ k (fun he => hk (by rw [he]; simp [Value.ownBlock]))⟩
  have hys : ys.length * (Kd.raw sz).sz = inner.length := by rw [hym]; exact hil.symm
  refine ⟨hys.symm, .inr ⟨g, cap, cur', by rw [hym, hm], hb, h3, by rw [hym, ← hm]; exact hnc, hcm, by rw [h4, hcs], ?_⟩⟩
  rw [h5, List.take_zero, List.nil_append, Nat.zero_add, hys, List.take_left]
/-- What copied answers: a row of its own; its elements lead where they led. -/
def CopOut {α : Type} (d : Kd α) (e : Nat) (S : Nat → Prop) (xs : List α) (w : World) (en : Ending) (w' : World) : Prop :=
 ∃ v rows, en = .returned v ∧ rows.length = xs.length ∧ (Kd.raw d.sz).R e w' w.heap.size (fun _ => True) v rows ∧ (∀ (j : Nat) (x : α) (c : List Value), xs[j]? = some x → rows[j]? = some c → Kd.FK d w (fun k => ¬ S k) x c) ∧ Below w.heap.size w w'
theorem lk_of_rows {α : Type} {d : Kd α} {e b : Nat} {S : Nat → Prop} {ok : Nat → Prop} {xs : List α} {w : World} {v : Value} {rows : List (List Value)} (hl : rows.length = xs.length) (hr : (Kd.raw d.sz).R e w b ok v rows) (hf : ∀ (j : Nat) (x : α) (c : List Value), xs[j]? = some x → rows[j]? = some c → Kd.FK d w (fun k => ¬ S k) x c) (hS : ∀ x, S x → x < b) : LK d S w v xs := by
 obtain ⟨A, c, rfl⟩ := Kd.R_slice hr
 have h1 := Kd.R_reads' hr
 rw [hl] at *
 refine LK.mk h1.2.1 (fun W' hW => ?_)
 have h2 := Kd.R_reads' (Kd.R_step (w1 := W') (Kd.R_bound hr) (fun k hk hl => hW k (fun e => by have := hS k e; have := hk.2.1; omega) hl))
 obtain ⟨a1, a2, a3⟩ := h2.2.2
 refine ⟨rfl, by omega, fun hp => ?_⟩
 obtain ⟨ad, e1, hc⟩ := a3 (by omega)
 refine ⟨ad, e1, fun j p hj => ?_⟩
 have hjl := (List.getElem?_eq_some_iff.1 hj).1
 obtain ⟨c1, h3, ⟨rfl, _⟩, h5⟩ := hc j _ (List.getElem?_eq_getElem (show j < rows.length by omega))
 exact ⟨_, h3, hf j p _ hj (List.getElem?_eq_getElem (show j < rows.length by omega)) W' hW, h5⟩
theorem CopOut.lk {α : Type} {d : Kd α} {e : Nat} {S : Nat → Prop} {xs : List α} {w : World} {en : Ending} {w' : World} (h : CopOut d e S xs w en w') (hS : ∀ x, S x → x < w.heap.size) : ∃ v, en = .returned v ∧ LK d S w' v xs ∧ Below w.heap.size w w' := by
 obtain ⟨v, rows, e1, hl, hr, hf, hb⟩ := h
 exact ⟨v, e1, lk_of_rows hl hr (fun j x c hx hc => Kd.FK_below (hf j x c hx hc) hb) hS, hb⟩
/-- make, its value told. -/
theorem make_full {P : Program} {ops : Array Oper} {rest : List Oper} {o : Oper} {a : Act} {Q : Exit → Act → World → Prop} {W : World} {e sz : Nat} (hgd : o.guard = none) (t : TypeId) (x y : Operand) (ho : o.op = .makeSlice t x y) (n : Nat) (hx : a.eval x = .int .i64 n) (hy : a.eval y = .int .i64 n)
  (ht : P.underlying t = some (.slice e)) (z : Value) (bytes : Nat) (hinfo : (P.info? e).map (fun i => (i.zero, i.size, i.bytes)) = some (some z, sz, bytes)) (hz : z.cells.size = sz) (hs0 : 0 < sz) (hb0 : 0 < bytes) (h1 : ∀ u ∈ z.cells.toList, u.oneCell' = true) (hl : n * bytes ≤ 281474976710656)
  (h : ∀ w1, (Kd.raw sz).R e w1 W.heap.size (fun _ => True) (.slice (some ⟨W.heap.size, 0, none⟩) n n) (List.replicate n z.cells.toList) → Below W.heap.size W w1 → wpList P ops Q rest (a.put o.dst (.slice (some ⟨W.heap.size, 0, none⟩) n n)) w1) : wpList P ops Q (o :: rest) a W := by
 obtain ⟨i0, hi, hzz⟩ := Option.map_eq_some_iff.1 hinfo
 simp only [Prod.mk.injEq] at hzz
 obtain ⟨hz0, hz1, hz2⟩ := hzz
 have hm : n ≤ 281474976710656 := Nat.le_trans (Nat.le_mul_of_pos_right _ hb0) hl
 have hr := run_make (P := P) W t e i0 z ht hi hz0 .i64 .i64 (n : Int) (n : Int) (by omega) (by omega)
  (by
   have h3 : ((i0.bytes * n : Nat) : Int) ≤ 281474976710656 := by rw [hz2, Nat.mul_comm]; omega
   rwa [Int.natCast_mul] at h3) (by omega)
 simp only [Int.toNat_natCast] at hr
 rw [hz1] at hr
 have hp := Kd.reps_made (R := (Kd.raw sz).M W W.heap.size (fun _ => True)) hz hs0 (z0 := z.cells.toList) ⟨rfl, by simpa using hz, h1⟩ n
 have ho1 := OwnRow.lit (e := e) W W.heap.size hp (Nat.le_refl _) (by simp; omega)
 rw [List.length_replicate] at ho1
 have hR : (Kd.raw sz).R e (W.alloc (.cells (madeCells z.cells (n * sz)).toList.toArray e)) W.heap.size (fun _ => True) (.slice (some ⟨W.heap.size, 0, none⟩) n n) (List.replicate n z.cells.toList) := ⟨fun _ _ => trivial, ho1⟩
 exact Kd.event_run hgd (v := .slice (some ⟨W.heap.size, 0, none⟩) n n) (w1 := W.alloc (.cells (madeCells z.cells (n * sz)).toList.toArray e)) (by simp [execOp, ho, hx, hy, hr]) (h _ hR (bz_))
/-- A copy is full. -/
def CopFull (S : Nat → Prop) (xs : List S39) (w : World) (en : Ending) (w' : World) : Prop := ∃ A rows, en = .returned (.slice A xs.length xs.length) ∧ rows.length = xs.length ∧ (Kd.raw 3).R 39 w' w.heap.size (fun _ => True) (.slice A xs.length xs.length) rows ∧ (∀ (j : Nat) (x : S39) (c : List Value), xs[j]? = some x → rows[j]? = some c → Kd.FK k39 w (fun k => ¬ S k) x c) ∧ Below w.heap.size w w'
set_option maxHeartbeats 1000000 in
theorem kCopVT_full (S : Nat → Prop) (A : Option Addr) (c : Nat) (xs : List S39) (w : World) (h : LK k39 S w (.slice A xs.length c) xs) (hl : xs.length ≤ 1099511627776) :
  Calls Tryz.prog 50 #[.slice A xs.length c] w (CopFull S xs w) := by
 obtain ⟨rows, hrl, hrC, hrf⟩ := Kd.reads_raw (Kd.F_rows h.F) (fun y c hk => ⟨(k39).K_len (Kd.FK_now hk), (k39).K_one (Kd.FK_now hk)⟩)
 have HC : Aside0 ((Kd.raw 3).C w A rows.length rows) := ⟨by rw [hrl]; exact hrC⟩
 have HF := Aside0.mk hrf
 have HRL := Aside0.mk hrl
 obtain ⟨n, hn⟩ : ∃ n, n = xs.length := ⟨_, rfl⟩
 rw [← hn] at hl hrl
 have HN := Aside0.mk hn
 have HL := Aside0.mk hl
 have HNR : Aside0 (rows.length = n) := ⟨hrl⟩
 rw [← hn]
 clear h hrC hrf hrl hn
 have hl2 : n ≤ 9223372036854775807 := by omega
 go_enter Tryz.func50, Tryz.ntmps50
 go_wp2_with (first | (at_make; refine make_full (sz := 3) (e := 39) rfl 27 (.tmp 5) (.tmp 5) rfl n rfl rfl Tryz.underlying27 (.agg #[.int .i64 0, .bool false, .int .i64 0]) 24 info39 rfl (by decide) (by decide) (by simp [Value.oneCell', Value.cells]) (by have := HL.out; omega) ?_; intro w1 hr hb; have R1 := Aside0.mk hr; have B1 := Aside0.mk hb; clear hr hb) | (refine gate_ (.call { callee := .builtin .copy, args := #[.tmp 7, .tmp 8], argTypes := #[27, 27] }) rfl ?_; refine raw_copy (sz := 3) (e := 39) (b := w.heap.size) (ok := fun _ => True) rfl (.tmp 7) (.tmp 8) 27 27 rfl Tryz.underlying27 (by kernel_rfl) (.slice (some ⟨w.heap.size, 0, none⟩) n n) (List.replicate n (.agg #[.int .i64 0, .bool false, .int .i64 0] : Value).cells.toList) rows A n c rfl rfl R1.out ?_ (by simp) ?_; (have h9 := Kd.C_below (HC.out) (B1.out); rw [HNR.out] at h9; exact h9); intro w2 hr hg; have R2 := Aside0.mk hr; have B2 := Aside0.mk (Below.grown B1.out hg B1.out.size (fun k hk => Kd.R_base R1.out k hk)); clear hr hg))
 go_ret
 exact ⟨some ⟨w.heap.size, 0, none⟩, rows, by rw [HN.out]; rfl, HRL.out, by have h_ := R2.out; rw [HN.out] at h_; exact h_, HF.out, B2.out⟩
theorem kCopVT_calls (S : Nat → Prop) (A : Option Addr) (c : Nat) (xs : List S39) (w : World) (h : LK k39 S w (.slice A xs.length c) xs) (hl : xs.length ≤ 1099511627776) :
  Calls Tryz.prog 50 #[.slice A xs.length c] w (CopOut k39 39 S xs w) :=
 (kCopVT_full S A c xs w h hl).mono (fun e w' ⟨A1, rows, e1, h1, h2, h3, h4⟩ => ⟨_, rows, e1, h1, h2, h3, h4⟩)
set_option maxHeartbeats 1000000 in
theorem kCopBool_calls (S : Nat → Prop) (A : Option Addr) (c : Nat) (xs : List Bool) (w : World) (h : LK Kd.bool S w (.slice A xs.length c) xs) (hl : xs.length ≤ 1099511627776) :
  Calls Tryz.prog 66 #[.slice A xs.length c] w (CopOut Kd.bool 4 S xs w) := by
 obtain ⟨rows, hrl, hrC, hrf⟩ := Kd.reads_raw (Kd.F_rows h.F) (fun y c hk => ⟨(Kd.bool).K_len (Kd.FK_now hk), (Kd.bool).K_one (Kd.FK_now hk)⟩)
 have HC : Aside0 ((Kd.raw 1).C w A rows.length rows) := ⟨by rw [hrl]; exact hrC⟩
 have HF := Aside0.mk hrf
 have HRL := Aside0.mk hrl
 obtain ⟨n, hn⟩ : ∃ n, n = xs.length := ⟨_, rfl⟩
 rw [← hn] at hl hrl ⊢
 have HN := Aside0.mk hn
 have HL := Aside0.mk hl
 have HNR : Aside0 (rows.length = n) := ⟨hrl⟩
 clear h hrC hrf hrl hn
 have hl2 : n ≤ 9223372036854775807 := by omega
 go_enter Tryz.func66, Tryz.ntmps66
 go_wp2_with (first | (at_make; refine Kd.R_make (Kd.raw 1) (w0 := w) w.heap.size 4 rfl rfl 28 (.tmp 5) (.tmp 5) rfl (n : Int) rfl rfl Tryz.underlying28 (.bool false) 1 info4 rfl (by decide) (by decide) (.bool false : Value).cells.toList (ok := fun _ => True) (okp := fun _ => True) ⟨rfl, rfl, by simp [Value.oneCell', Value.cells]⟩ (fun _ _ => trivial) trivial (by omega) (by have := HL.out; omega) (Below.refl _ _) (Nat.le_refl _) ?_; intro v1 w1 hr hb hg hat; simp only [Int.toNat_natCast] at hr; obtain ⟨A1, c1, ev⟩ := Kd.R_slice hr; rw [List.length_replicate] at ev; subst ev; have R1 := Aside0.mk hr; have B1 := Aside0.mk hb; clear hr hb hg hat) | (refine gate_ (.call { callee := .builtin .copy, args := #[.tmp 7, .tmp 8], argTypes := #[28, 28] }) rfl ?_; refine raw_copy (sz := 1) (e := 4) (b := w.heap.size) (ok := fun _ => True) rfl (.tmp 7) (.tmp 8) 28 28 rfl Tryz.underlying28 (by kernel_rfl) (.slice A1 n c1) (List.replicate n (.bool false : Value).cells.toList) rows A n c rfl rfl R1.out ?_ (by simp) ?_; (have h9 := Kd.C_below (HC.out) (B1.out); rw [HNR.out] at h9; exact h9); intro w2 hr hg; have R2 := Aside0.mk hr; have B2 := Aside0.mk (Below.grown B1.out hg B1.out.size (fun k hk => Kd.R_base R1.out k hk)); clear hr hg))
 go_ret
 exact ⟨.slice A1 n c1, rows, rfl, HRL.out, R2.out, HF.out, B2.out⟩
set_option maxHeartbeats 1000000 in
theorem kCopRT_calls (S : Nat → Prop) (A : Option Addr) (c : Nat) (xs : List S132) (w : World) (h : LK k132 S w (.slice A xs.length c) xs) (hl : xs.length ≤ 1099511627776) :
  Calls Tryz.prog 113 #[.slice A xs.length c] w (CopOut k132 132 S xs w) := by
 obtain ⟨rows, hrl, hrC, hrf⟩ := Kd.reads_raw (Kd.F_rows h.F) (fun y c hk => ⟨(k132).K_len (Kd.FK_now hk), (k132).K_one (Kd.FK_now hk)⟩)
 have HC : Aside0 ((Kd.raw 2).C w A rows.length rows) := ⟨by rw [hrl]; exact hrC⟩
 have HF := Aside0.mk hrf
 have HRL := Aside0.mk hrl
 obtain ⟨n, hn⟩ : ∃ n, n = xs.length := ⟨_, rfl⟩
 rw [← hn] at hl hrl ⊢
 have HN := Aside0.mk hn
 have HL := Aside0.mk hl
 have HNR : Aside0 (rows.length = n) := ⟨hrl⟩
 clear h hrC hrf hrl hn
 have hl2 : n ≤ 9223372036854775807 := by omega
 go_enter Tryz.func113, Tryz.ntmps113
 go_wp2_with (first | (at_make; refine Kd.R_make (Kd.raw 2) (w0 := w) w.heap.size 132 rfl rfl 22 (.tmp 5) (.tmp 5) rfl (n : Int) rfl rfl Tryz.underlying22 (.agg #[.slice none 0 0, .bool false]) 32 info132 rfl (by decide) (by decide) (.agg #[.slice none 0 0, .bool false] : Value).cells.toList (ok := fun _ => True) (okp := fun _ => True) ⟨rfl, rfl, by simp [Value.oneCell', Value.cells]⟩ (fun _ _ => trivial) trivial (by omega) (by have := HL.out; omega) (Below.refl _ _) (Nat.le_refl _) ?_; intro v1 w1 hr hb hg hat; simp only [Int.toNat_natCast] at hr; obtain ⟨A1, c1, ev⟩ := Kd.R_slice hr; rw [List.length_replicate] at ev; subst ev; have R1 := Aside0.mk hr; have B1 := Aside0.mk hb; clear hr hb hg hat) | (refine gate_ (.call { callee := .builtin .copy, args := #[.tmp 7, .tmp 8], argTypes := #[22, 22] }) rfl ?_; refine raw_copy (sz := 2) (e := 132) (b := w.heap.size) (ok := fun _ => True) rfl (.tmp 7) (.tmp 8) 22 22 rfl Tryz.underlying22 (by kernel_rfl) (.slice A1 n c1) (List.replicate n (.agg #[.slice none 0 0, .bool false] : Value).cells.toList) rows A n c rfl rfl R1.out ?_ (by simp) ?_; (have h9 := Kd.C_below (HC.out) (B1.out); rw [HNR.out] at h9; exact h9); intro w2 hr hg; have R2 := Aside0.mk hr; have B2 := Aside0.mk (Below.grown B1.out hg B1.out.size (fun k hk => Kd.R_base R1.out k hk)); clear hr hg))
 go_ret
 exact ⟨.slice A1 n c1, rows, rfl, HRL.out, R2.out, HF.out, B2.out⟩
set_option maxHeartbeats 1000000 in
theorem kCopST_calls (S : Nat → Prop) (A : Option Addr) (c : Nat) (xs : List S123) (w : World) (h : LK k123 S w (.slice A xs.length c) xs) (hl : xs.length ≤ 1099511627776) :
  Calls Tryz.prog 114 #[.slice A xs.length c] w (CopOut k123 123 S xs w) := by
 obtain ⟨rows, hrl, hrC, hrf⟩ := Kd.reads_raw (Kd.F_rows h.F) (fun y c hk => ⟨(k123).K_len (Kd.FK_now hk), (k123).K_one (Kd.FK_now hk)⟩)
 have HC : Aside0 ((Kd.raw 6).C w A rows.length rows) := ⟨by rw [hrl]; exact hrC⟩
 have HF := Aside0.mk hrf
 have HRL := Aside0.mk hrl
 obtain ⟨n, hn⟩ : ∃ n, n = xs.length := ⟨_, rfl⟩
 rw [← hn] at hl hrl ⊢
 have HN := Aside0.mk hn
 have HL := Aside0.mk hl
 have HNR : Aside0 (rows.length = n) := ⟨hrl⟩
 clear h hrC hrf hrl hn
 have hl2 : n ≤ 9223372036854775807 := by omega
 go_enter Tryz.func114, Tryz.ntmps114
 go_wp2_with (first | (at_make; refine Kd.R_make (Kd.raw 6) (w0 := w) w.heap.size 123 rfl rfl 130 (.tmp 5) (.tmp 5) rfl (n : Int) rfl rfl Tryz.underlying130 (.agg #[.bool false, .slice none 0 0, .int .i64 0, .slice none 0 0, .slice none 0 0, .slice none 0 0]) 112 info123 rfl (by decide) (by decide) (.agg #[.bool false, .slice none 0 0, .int .i64 0, .slice none 0 0, .slice none 0 0, .slice none 0 0] : Value).cells.toList (ok := fun _ => True) (okp := fun _ => True) ⟨rfl, rfl, by simp [Value.oneCell', Value.cells]⟩ (fun _ _ => trivial) trivial (by omega) (by have := HL.out; omega) (Below.refl _ _) (Nat.le_refl _) ?_; intro v1 w1 hr hb hg hat; simp only [Int.toNat_natCast] at hr; obtain ⟨A1, c1, ev⟩ := Kd.R_slice hr; rw [List.length_replicate] at ev; subst ev; have R1 := Aside0.mk hr; have B1 := Aside0.mk hb; clear hr hb hg hat) | (refine gate_ (.call { callee := .builtin .copy, args := #[.tmp 7, .tmp 8], argTypes := #[130, 130] }) rfl ?_; refine raw_copy (sz := 6) (e := 123) (b := w.heap.size) (ok := fun _ => True) rfl (.tmp 7) (.tmp 8) 130 130 rfl Tryz.underlying130 (by kernel_rfl) (.slice A1 n c1) (List.replicate n (.agg #[.bool false, .slice none 0 0, .int .i64 0, .slice none 0 0, .slice none 0 0, .slice none 0 0] : Value).cells.toList) rows A n c rfl rfl R1.out ?_ (by simp) ?_; (have h9 := Kd.C_below (HC.out) (B1.out); rw [HNR.out] at h9; exact h9); intro w2 hr hg; have R2 := Aside0.mk hr; have B2 := Aside0.mk (Below.grown B1.out hg B1.out.size (fun k hk => Kd.R_base R1.out k hk)); clear hr hg))
 go_ret
 exact ⟨.slice A1 n c1, rows, rfl, HRL.out, R2.out, HF.out, B2.out⟩
set_option maxHeartbeats 1000000 in
theorem kCopInt_calls (S : Nat → Prop) (A : Option Addr) (c : Nat) (xs : List Int) (w : World) (h : LK (Kd.int .i64) S w (.slice A xs.length c) xs) (hl : xs.length ≤ 1099511627776) :
  Calls Tryz.prog 115 #[.slice A xs.length c] w (CopOut (Kd.int .i64) 3 S xs w) := by
 obtain ⟨rows, hrl, hrC, hrf⟩ := Kd.reads_raw (Kd.F_rows h.F) (fun y c hk => ⟨((Kd.int .i64)).K_len (Kd.FK_now hk), ((Kd.int .i64)).K_one (Kd.FK_now hk)⟩)
 have HC : Aside0 ((Kd.raw 1).C w A rows.length rows) := ⟨by rw [hrl]; exact hrC⟩
 have HF := Aside0.mk hrf
 have HRL := Aside0.mk hrl
 obtain ⟨n, hn⟩ : ∃ n, n = xs.length := ⟨_, rfl⟩
 rw [← hn] at hl hrl ⊢
 have HN := Aside0.mk hn
 have HL := Aside0.mk hl
 have HNR : Aside0 (rows.length = n) := ⟨hrl⟩
 clear h hrC hrf hrl hn
 have hl2 : n ≤ 9223372036854775807 := by omega
 go_enter Tryz.func115, Tryz.ntmps115
 go_wp2_with (first | (at_make; refine Kd.R_make (Kd.raw 1) (w0 := w) w.heap.size 3 rfl rfl 23 (.tmp 5) (.tmp 5) rfl (n : Int) rfl rfl Tryz.underlying23 (.int .i64 0) 8 info3 rfl (by decide) (by decide) (.int .i64 0 : Value).cells.toList (ok := fun _ => True) (okp := fun _ => True) ⟨rfl, rfl, by simp [Value.oneCell', Value.cells]⟩ (fun _ _ => trivial) trivial (by omega) (by have := HL.out; omega) (Below.refl _ _) (Nat.le_refl _) ?_; intro v1 w1 hr hb hg hat; simp only [Int.toNat_natCast] at hr; obtain ⟨A1, c1, ev⟩ := Kd.R_slice hr; rw [List.length_replicate] at ev; subst ev; have R1 := Aside0.mk hr; have B1 := Aside0.mk hb; clear hr hb hg hat) | (refine gate_ (.call { callee := .builtin .copy, args := #[.tmp 7, .tmp 8], argTypes := #[23, 23] }) rfl ?_; refine raw_copy (sz := 1) (e := 3) (b := w.heap.size) (ok := fun _ => True) rfl (.tmp 7) (.tmp 8) 23 23 rfl Tryz.underlying23 (by kernel_rfl) (.slice A1 n c1) (List.replicate n (.int .i64 0 : Value).cells.toList) rows A n c rfl rfl R1.out ?_ (by simp) ?_; (have h9 := Kd.C_below (HC.out) (B1.out); rw [HNR.out] at h9; exact h9); intro w2 hr hg; have R2 := Aside0.mk hr; have B2 := Aside0.mk (Below.grown B1.out hg B1.out.size (fun k hk => Kd.R_base R1.out k hk)); clear hr hg))
 go_ret
 exact ⟨.slice A1 n c1, rows, rfl, HRL.out, R2.out, HF.out, B2.out⟩
set_option maxHeartbeats 1000000 in
theorem kCopFT_calls (S : Nat → Prop) (A : Option Addr) (c : Nat) (xs : List S172) (w : World) (h : LK k172 S w (.slice A xs.length c) xs) (hl : xs.length ≤ 1099511627776) :
  Calls Tryz.prog 116 #[.slice A xs.length c] w (CopOut k172 172 S xs w) := by
 obtain ⟨rows, hrl, hrC, hrf⟩ := Kd.reads_raw (Kd.F_rows h.F) (fun y c hk => ⟨(k172).K_len (Kd.FK_now hk), (k172).K_one (Kd.FK_now hk)⟩)
 have HC : Aside0 ((Kd.raw 4).C w A rows.length rows) := ⟨by rw [hrl]; exact hrC⟩
 have HF := Aside0.mk hrf
 have HRL := Aside0.mk hrl
 obtain ⟨n, hn⟩ : ∃ n, n = xs.length := ⟨_, rfl⟩
 rw [← hn] at hl hrl ⊢
 have HN := Aside0.mk hn
 have HL := Aside0.mk hl
 have HNR : Aside0 (rows.length = n) := ⟨hrl⟩
 clear h hrC hrf hrl hn
 have hl2 : n ≤ 9223372036854775807 := by omega
 go_enter Tryz.func116, Tryz.ntmps116
 go_wp2_with (first | (at_make; refine Kd.R_make (Kd.raw 4) (w0 := w) w.heap.size 172 rfl rfl 119 (.tmp 5) (.tmp 5) rfl (n : Int) rfl rfl Tryz.underlying119 (.agg #[.int .i64 0, .bool false, .int .i64 0, .bool false]) 32 info172 rfl (by decide) (by decide) (.agg #[.int .i64 0, .bool false, .int .i64 0, .bool false] : Value).cells.toList (ok := fun _ => True) (okp := fun _ => True) ⟨rfl, rfl, by simp [Value.oneCell', Value.cells]⟩ (fun _ _ => trivial) trivial (by omega) (by have := HL.out; omega) (Below.refl _ _) (Nat.le_refl _) ?_; intro v1 w1 hr hb hg hat; simp only [Int.toNat_natCast] at hr; obtain ⟨A1, c1, ev⟩ := Kd.R_slice hr; rw [List.length_replicate] at ev; subst ev; have R1 := Aside0.mk hr; have B1 := Aside0.mk hb; clear hr hb hg hat) | (refine gate_ (.call { callee := .builtin .copy, args := #[.tmp 7, .tmp 8], argTypes := #[119, 119] }) rfl ?_; refine raw_copy (sz := 4) (e := 172) (b := w.heap.size) (ok := fun _ => True) rfl (.tmp 7) (.tmp 8) 119 119 rfl Tryz.underlying119 (by kernel_rfl) (.slice A1 n c1) (List.replicate n (.agg #[.int .i64 0, .bool false, .int .i64 0, .bool false] : Value).cells.toList) rows A n c rfl rfl R1.out ?_ (by simp) ?_; (have h9 := Kd.C_below (HC.out) (B1.out); rw [HNR.out] at h9; exact h9); intro w2 hr hg; have R2 := Aside0.mk hr; have B2 := Aside0.mk (Below.grown B1.out hg B1.out.size (fun k hk => Kd.R_base R1.out k hk)); clear hr hg))
 go_ret
 exact ⟨.slice A1 n c1, rows, rfl, HRL.out, R2.out, HF.out, B2.out⟩
end Go.Proofs.YtohlmkcgempdlaaGreatDoor.Cn
