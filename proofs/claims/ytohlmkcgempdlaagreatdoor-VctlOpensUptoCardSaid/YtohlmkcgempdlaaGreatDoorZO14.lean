/- Parts of the proof of vctlOpens_holds (14 of 22): what it says and shows stands at its declarations. -/
import Derived.Test.YtohlmkcgempdlaaGreatDoorZO13
import Derived.RangeFuncFrom
import Derived.RangeFuncNested
import Derived.RangeFuncCalls
import Derived.RangeFuncBound
import Derived.TacticsInMore
import Derived.OwnWalkIn
import Derived.LoopIn
import Derived.Shelf.RegionOpen
import Derived.ArgAppend
import Derived.Lib.AppendIntMem
namespace Go.Proofs.YtohlmkcgempdlaaGreatDoor.Cn
set_option linter.unusedSimpArgs false
set_option maxRecDepth 100000
set_option linter.unusedVariables false
open Go.RowKit Go.Maps Go.Proofs.YtohlmkcgempdlaaGreatDoorW.PrintWords Go.Proofs.YtohlmkcgempdlaaGreatDoorW.PrintLast Go.Proofs.YtohlmkcgempdlaaGreatDoorW.PrintMore Go.Proofs.YtohlmkcgempdlaaGreatDoor.QD
theorem Bz4 (w : World) (o : Obj) : (w.alloc o).heap[w.heap.size]? = some o := by show (w.heap.push o)[w.heap.size]? = some o; simp
theorem An7 {w : World} {k : Nat} {o : Obj} (h : w.heap[k]? = some o) : k < w.heap.size := (Array.getElem?_eq_some_iff.1 h).1
structure Stays (nb B : Nat) (I : World → Prop) : Prop where
 put : ∀ (W : World) (l : Nat) (o : Obj), B ≤ l → l < W.heap.size → I W → I (W.putObj l o)
 set : ∀ (W : World) (v : Value), I W → I (W.setCell ⟨nb, 0, none⟩ v)
 drew : ∀ W : World, I W → I W.drew
 alloc : ∀ (W : World) (o : Obj), I W → I (W.alloc o)
structure RKeep (nb B : Nat) (W W' : World) : Prop where
 size : W.heap.size ≤ W'.heap.size
 own : W'.heap[nb]? = W.heap[nb]?
 new : ∀ k, B ≤ k → k < W.heap.size → W'.heap[k]? = W.heap[k]?
def cellPost (nb B : Nat) (I : List Int → World → Prop) (Ix : Code → List Int → World → Prop) (p : List Int) (W : World) : Exit → Act → World → Prop
 | .normal, _, W' => RKeep nb B W W' ∧ I p W'
 | .ret, _, W' => (W.heap.size ≤ W'.heap.size ∧ ∀ k, B ≤ k → k < W.heap.size → W'.heap[k]? = W.heap[k]?) ∧ Ix .ret p W'
 | _, _, _ => False
def Cm1 (n : Nat) (P : Program) (gf : Nat) (lb : Array Value) (nb : Nat) (X : Obj) (Good : World → Prop) (Ok : Int → Prop) (S Sp : List Int → Prop) : Prop :=
 ∀ (l : Nat) (J Jx : List Int → World → Prop) (W : World), (∀ p W v, J p W → J p (W.setCell ⟨nb, 0, none⟩ v)) → (∀ p W, J p W → J p W.drew) → (∀ p W, J p W → Good W) →
  (∀ p (x : Int) W1, J p W1 → Ok x → YieldAt Fence.wide (n - 1) P l #[.int .i64 x] W1 fun e W' => (e = .returned (.bool true) ∧ J (p ++ [x]) W' ∧ W'.heap[nb]? = W1.heap[nb]?) ∨ (e = .returned (.bool false) ∧ Jx (p ++ [x]) W')) →
  J [] W → W.heap[nb]? = some X →
  CallsIn Fence.wide n P gf (#[.func (.yield l) #[] #[]] ++ lb) W fun e W' => (∃ v, e = .returned v) ∧ ((∃ p, S p ∧ J p W') ∨ (∃ p, Sp p ∧ Jx p W'))
theorem Cb3 {n : Nat} {P : Program} {g : Operand} {ps : Array Tmp} {assign body : Code} {Q : Exit → Act → World → Prop} {a : Act} {w : World} {gf : Nat} {lb : Array Value} {nb : Nat} {X : Obj} {Good : World → Prop} {Ok : Int → Prop} {S Sp : List Int → Prop}
  (hg : a.eval g = .func (.func gf) #[] lb) (eg : ∀ args w, (callFunc gf args).run P w = .ok (.enter gf args) w) (hps : ps.size = 1)
  (hseq : Cm1 (n - 1) P gf lb nb X Good Ok S Sp) (hnb : nb < w.heap.size) (hX : w.heap[nb]? = some X)
  (I : List Int → World → Prop) (Ix : Code → List Int → World → Prop) (hI : ∀ p, Stays nb w.heap.size (I p)) (hG : ∀ p W, I p W → Good W)
  (hIx : ∀ c p W l o, w.heap.size ≤ l → l < W.heap.size → Ix c p W → Ix c p (W.putObj l o)) (h0 : I [] w) (a₁ : Int → Act)
  (hassign : ∀ (l : Nat) (x : Int) (W : World) (K : Act → World → Prop), K (a₁ x) W →
   assign.wpIn (Fence.wide.inRound l) (n - 1 - 1) P (Exit.then K (fun _ _ _ => False)) { tmps := (ps.zip #[.int .i64 x]).foldl (fun t (p, v) => t.setIfInBounds p v) a.tmps, defers := [] } W)
  (hbody : ∀ (l : Nat) (p : List Int) (x : Int) (W : World), I p W → Ok x → body.wpIn (Fence.wide.inRound l) (n - 1 - 1) P (cellPost nb w.heap.size I Ix (p ++ [x]) W) (a₁ x) W)
  (hdone : ∀ (D : Nat) (p : List Int) (W : World), w.heap.size ≤ D → S p → I p W → W.heap[D]? = some (.deferred (some [])) → Q .normal { a with defers := { target := .collected D, args := #[] } :: a.defers } W)
  (hstop : ∀ (D : Nat) (c : Code) (p : List Int) (W : World), w.heap.size ≤ D → Sp p → Ix c p W → W.heap[D]? = some (.deferred (some [])) → c.wpIn Fence.wide n P Q { a with defers := { target := .collected D, args := #[] } :: a.defers } W) :
  (Code.rangeFunc g ps assign body).wpIn Fence.wide n P Q a w := by
 refine wpIn_rangeFunc fun fn _ => ?_
 let rec0 : LoopState → Option Code → Obj := fun st pe => .loop { state := st, pending := pe, fn, tmps := a.tmps, params := ps, assign, body, defers := w.heap.size }
 let D := w.heap.size
 let R := w.heap.size + 1
 let w1 := (w.alloc (.deferred (some []))).alloc (rec0 .ready none)
 have r1 : w1.heap[R]? = some (rec0 .ready none) := by
  have := Bz4 (w.alloc (.deferred (some []))) (rec0 .ready none)
  rwa [World.size_alloc] at this
 have d1 : w1.heap[D]? = some (.deferred (some [])) := by
  have h := Bz4 w (.deferred (some []))
  exact (Below.heap_alloc _ _ _ (by simp [D])).trans h
 have i1 : I [] w1 := (hI []).alloc _ _ ((hI []).alloc _ _ h0)
 have x1 : w1.heap[nb]? = some X := (Below.heap_alloc _ _ _ (by simp; omega)).trans ((Below.heap_alloc _ _ _ hnb).trans hX)
 refine ⟨R, [{ target := .collected D, args := #[] }], w1, { target := .fn (.func gf) lb, args := #[.func (.yield R) #[] #[]] }, w1, gf, #[.func (.yield R) #[] #[]] ++ lb, w1, run_enterLoop_outer _ _ _ _ _, ?_, ?_, ?_, (fun h => (by cases h)), ?_⟩
 ·simp only [resolve, hg]
  simp [go_sem]
 ·intro f' _
  trivial
 ·simp [invoke, go_sem, eg]
 ·let J : List Int → World → Prop := fun p W => I p W ∧ W.heap[R]? = some (rec0 .ready none) ∧ W.heap[D]? = some (.deferred (some []))
  let Jx : List Int → World → Prop := fun p W => ∃ c, Ix c p W ∧ W.heap[R]? = some (rec0 .done (some c)) ∧ W.heap[D]? = some (.deferred (some []))
  have hnR : R ≠ nb := by show w.heap.size + 1 ≠ nb; omega
  have hnD : D ≠ nb := by show w.heap.size ≠ nb; omega
  have hDR : D ≠ R := by show w.heap.size ≠ w.heap.size + 1; omega
  refine (hseq R J Jx w1 (fun p W v hj => ⟨(hI p).set _ _ hj.1, (Below.heap_setCell W ⟨nb, 0, none⟩ v R hnR).trans hj.2.1, (Below.heap_setCell W ⟨nb, 0, none⟩ v D hnD).trans hj.2.2⟩) (fun p W hj => ⟨(hI p).drew _ hj.1, hj.2.1, hj.2.2⟩) (fun p W hj => hG p W hj.1) ?_ ⟨i1, r1, d1⟩ x1).mono ?_
  ·-- a round
   rintro p x W ⟨hi, hr, hd⟩ hok
   have hlt : R < W.heap.size := An7 hr
   have hltD : D < W.heap.size := An7 hd
   refine ⟨fn, _, assign, body, run_yield hr (by simp [hps]), roundIn_of_wpIn trivial (hassign R x W _ ⟨_, run_beginRound hr rfl, ?_⟩)⟩
   refine wpIn_mono (hbody R p x (W.putObj R (rec0 .busy none)) ((hI p).put _ _ _ (by show w.heap.size ≤ w.heap.size + 1; omega) hlt hi) hok) ?_
   have hrb : (W.putObj R (rec0 .busy none)).heap[R]? = some (rec0 .busy none) := World.putObj_heap_same hlt
   have hdb : (W.putObj R (rec0 .busy none)).heap[D]? = some (.deferred (some [])) := (World.putObj_heap_other hDR).trans hd
   have hnbk : (W.putObj R (rec0 .busy none)).heap[nb]? = W.heap[nb]? := World.putObj_heap_other (Ne.symm hnR)
   intro e a3 W3 hp
   cases e with
   | normal =>
    obtain ⟨hk, hi3⟩ := hp
    have hr3 : W3.heap[R]? = some (rec0 .busy none) := (hk.new R (by show w.heap.size ≤ w.heap.size + 1; omega) (by rw [World.putObj_size]; exact hlt)).trans hrb
    have hd3 : W3.heap[D]? = some (.deferred (some [])) := (hk.new D (Nat.le_refl _) (by rw [World.putObj_size]; exact hltD)).trans hdb
    refine ⟨_, _, run_endRound none hr3, .inl ⟨rfl, ⟨(hI _).put _ _ _ (by show w.heap.size ≤ w.heap.size + 1; omega) (An7 hr3) hi3, World.putObj_heap_same (An7 hr3), (World.putObj_heap_other hDR).trans hd3⟩, ?_⟩⟩
    exact (World.putObj_heap_other (Ne.symm hnR)).trans (hk.own.trans hnbk)
   | ret =>
    obtain ⟨⟨hsz, hk⟩, hi3⟩ := hp
    have hr3 : W3.heap[R]? = some (rec0 .busy none) := (hk R (by show w.heap.size ≤ w.heap.size + 1; omega) (by rw [World.putObj_size]; exact hlt)).trans hrb
    have hd3 : W3.heap[D]? = some (.deferred (some [])) := (hk D (Nat.le_refl _) (by rw [World.putObj_size]; exact hltD)).trans hdb
    exact ⟨_, _, run_endRound (some .ret) hr3, .inr ⟨rfl, .ret, hIx _ _ _ _ _ (by show w.heap.size ≤ w.heap.size + 1; omega) (An7 hr3) hi3, World.putObj_heap_same (An7 hr3), (World.putObj_heap_other hDR).trans hd3⟩⟩
   | exit id => exact hp.elim
   | goto t => exact hp.elim
   | panic ch => exact hp.elim
   | outgrown => exact hp.elim
  ·-- behind the iterator
   rintro e W2 ⟨⟨v, rfl⟩, (⟨p, hS, hi, hr, hd⟩ | ⟨p, hS, c, hi, hr, hd⟩)⟩
   ·exact ⟨none, _, run_endLoop hr (by intro e; cases e), hdone D p _ (Nat.le_refl _) hS ((hI p).put _ _ _ (by show w.heap.size ≤ w.heap.size + 1; omega) (An7 hr) hi) ((World.putObj_heap_other hDR).trans hd)⟩
   ·exact ⟨some c, _, run_endLoop hr (by intro e; cases e), hstop D c p _ (Nat.le_refl _) hS (hIx _ _ _ _ _ (by show w.heap.size ≤ w.heap.size + 1; omega) (An7 hr) hi) ((World.putObj_heap_other hDR).trans hd)⟩
def Bu7 (ops : Array Oper) : Bool := ops.toList.all fun o => match o.op with | .defer _ => false | _ => true
theorem Bp4 {ops : Array Oper} (h : Bu7 ops = true) {i : Nat} {o : Oper} (ho : ops[i]? = some o) : ∀ c, o.op ≠ .defer c := by
 intro c hc
 have hm : o ∈ ops.toList := by
  rw [← Array.getElem?_toList] at ho
  exact List.mem_of_getElem? ho
 have := List.all_eq_true.1 h o hm
 rw [hc] at this
 cases this
theorem Ca5 {P : Program} {o : Oper} {a : Act} {next next' : Act → World → Prop} {Q : Exit → Act → World → Prop} {r : Result Next} {l n : Nat} (hn : ∀ a w, next a w → next' a w) (h : Oper.upon P o a next Q r) : Oper.uponIn (Fence.wide.inRound l) n P o a next' Q r := by
 cases r with
 | ok v w' =>
  cases v with
  | value v => exact hn _ _ h
  | skip => exact hn _ _ h
  | defer d => exact hn _ _ h
  | enter f args =>
   refine ⟨(fun h0 => (by cases h0)), CallsIn.inRound l (callsIn_wide.2 (Calls.mono h fun e w hh => ?_))⟩
   cases e with
   | returned v => exact hn _ _ hh
   | panicked c => exact hh
   | outgrown => exact hh
  | row row args =>
   refine ⟨(fun h0 => (by cases h0)), fun c cs _ => ?_⟩
   obtain ⟨v, w2, hr, hs⟩ := h c cs
   exact ⟨v, w2, hn _ _ hr, stepsIn_wide.2 hs⟩
  | _ => exact h.elim
 | halt s w' =>
  cases s <;> first | exact h | exact h.elim
theorem Al2 {P : Program} {md : Region.Mode} {ops : Array Oper} {Q : Exit → Act → World → Prop} {l n : Nat} (hno : ¬ LetsOut Q) (hops : Bu7 ops = true) :
  ∀ (fuel : Nat) (listed : Array Bool) (a : Act) (w : World), wpAny P md ops Q fuel listed a w → wpAnyIn (Fence.wide.inRound l) n P md ops Q fuel listed a w
 | 0, _, _, _, h => h
 | fuel + 1, listed, a, w, h => ⟨h.1, fun i hi => by
   have h2 := h.2 i hi
   unfold wpOp at h2
   unfold wpOpIn
   cases ho : ops[i]? with
   | none => rw [ho] at h2; exact Al2 hno hops fuel _ _ _ h2
   | some o =>
    rw [ho] at h2
    dsimp only at h2 ⊢
    by_cases hw : Region.wanted o (yielded ops a.tmps) = true
    ·rw [if_pos hw] at h2 ⊢
     rcases h2 with h2 | h2
     ·refine ⟨fun _ _ => trivial, ?_⟩
      rw [Oper.semAt_eq _ _ _ (Bp4 hops ho)]
      exact Ca5 (fun a' w' h' => Al2 hno hops fuel _ a' w' h') h2
     ·exact absurd h2.2 hno
    ·rw [if_neg hw] at h2 ⊢
     exact ⟨fun _ _ => trivial, Al2 hno hops fuel _ _ _ h2⟩⟩
theorem startR_ {P : Program} {ops : Array Oper} {Q : Exit → Act → World → Prop} {S : World → Prop} {ds : List Nat} {id n rl m : Nat} {a : Act} {w : World} (hno : ¬ LetsOut Q) (hops : Bu7 ops = true) (l : Array Bool) (hm : P.follows .mixedOrders = true) (hn : ops.size = n) (hl : Array.replicate n false = l) (hS : S w.drew)
  (h : S w.drew → Ab0 P .any ops Q S ds n l a w.drew) : (Code.region id ops true).wpIn (Fence.wide.inRound rl) m P Q a w := by
 subst hn
 subst hl
 exact wpIn_region_any hm (Al2 hno hops _ _ _ _ (Ao8 _ _ _ _ (h hS)))
def Ao5 (l : List S132) : Nat → Int → List Int
 | 0, _ => []
 | k + 1, x => x :: (match (tyAt l x).f1 with | [] => [] | y :: _ => Ao5 l k y)
theorem Br7 {l : List S132} {x : Int} (k : Nat) (h : (tyAt l x).f1 = []) : Ao5 l (k + 1) x = [x] := by simp [Ao5, h]
theorem Bz3 {l : List S132} {x y : Int} {t : List Int} (k : Nat) (h : (tyAt l x).f1 = y :: t) : Ao5 l (k + 1) x = x :: Ao5 l k y := by simp [Ao5, h]
theorem Bb8 {l : List S132} (hc : Clo l) {x : Int} (h0 : 0 ≤ x) (h1 : x < ((flat l).length : Int)) : ∀ y ∈ (tyAt l x).f1, 0 ≤ y ∧ y < ((flat l).length : Int) := by
 obtain ⟨j, r, p, hj, hr, he, hp⟩ := Ba4 l l.length x.toNat (Nat.le_refl _) (by rw [List.take_length, ← Ad1]; omega)
 have h2 : (flat l)[x.toNat]? = r.f0[p]? := by rw [he]; exact By9 hr hp
 have h3 : tyAt l x = r.f0[p] := by
  unfold tyAt Ac2
  rw [List.getD_eq_getElem?_getD, h2, List.getElem?_eq_getElem hp]
  rfl
 have h4 := (Aw7 _ _).1 (hc j r hr (r.f0[p]) (List.getElem_mem hp))
 intro y hy
 rw [h3] at hy
 refine ⟨h4.1 y hy, ?_⟩
 have h5 := (h4.2.q1 y hy).2
 have h6 := Am0 l (j + 1) l.length (by omega)
 rw [List.take_length] at h6
 rw [Ad1]
 omega
set_option maxHeartbeats 8000000 in
theorem Cl8 (l : List S132) (hc : Clo l) (cb pb nb : Nat) (x0 : Int) (h0 : 0 ≤ x0) (h1 : x0 < ((flat l).length : Int)) (hll : (flat l).length ≤ 1048576) (n : Nat) :
  Cm1 n Tryz.prog 180 #[.pointer (some ⟨pb, 0, none⟩), .pointer (some ⟨nb, 0, none⟩)] nb (.cells #[.int .i64 x0] 3 (0, 0)) (fun W => W.heap[pb]? = some (.cells #[.pointer (some ⟨cb, 0, none⟩)] 151 (0, 0)) ∧ Ctx l cb W) (fun x => 0 ≤ x ∧ x < ((flat l).length : Int))
   (fun p => p = Ao5 l ((flat l).length + 1) x0) (fun p => ∃ t, p ++ t = Ao5 l ((flat l).length + 1) x0) := by
 intro rl J Jx W hset hdrew hgood hY hJ hX
 refine callsIn_of_wp Tryz.func180 rfl trivial ?_ rfl
 simp only [Tryz.ntmps180, List.size_toArray, List.length_cons, List.length_nil, Nat.reduceAdd, Nat.reduceSub, Array.replicate_succ, Array.replicate_zero, List.push_toArray, List.append_toArray, List.nil_append, List.cons_append, Array.append_empty]
 have HSET := zA hset
 have HDREW := zA hdrew
 have HGOOD := zA hgood
 have HY := zA hY
 have HC := zA hc
 have HJ := zA hJ
 have HX := zA hX
 obtain ⟨gp, gc⟩ := hgood _ _ hJ
 obtain ⟨L, Ai, ci, Aa, ca, I, e1, e2, e3, e4, e5, e6⟩ := gc.ex
 have x1 : W.cell? ⟨pb, 0, none⟩ = some (.pointer (some ⟨cb, 0, none⟩)) := (Aa0 gp 0).trans rfl
 have x2 : W.cell? ⟨cb, 2, none⟩ = some (.slice Aa (flat l).length ca) := (Aa0 e1 2).trans rfl
 have hwl : wrap64 (((flat l).length : Int) + 1) = ((flat l).length : Int) + 1 := by unfold wrap64; omega
 clear hset hdrew hgood hY hJ hX gp gc e1 e2 e3 e4 e5 e6 hc
 gi_wp2
 obtain ⟨m, hm⟩ : ∃ m, m = (flat l).length := ⟨_, rfl⟩
 have HM := zA hm
 gi_loopw [11] (fun i W => ∃ (k : Nat) (x : Int) (p : List Int), i = .int .i64 k ∧ k ≤ m + 1 ∧ (0 ≤ x ∧ x < (m : Int)) ∧ J p W ∧ W.heap[nb]? = some (.cells #[.int .i64 x] 3 (0, 0)) ∧ p ++ Ao5 l (m + 1 - k) x = Ao5 l (m + 1) x0) (fun i _ => m + 1 - (intOf i).toNat)
 case atStart => exact ⟨0, x0, [], rfl, Nat.zero_le _, ⟨h0, by omega⟩, HJ.out, HX.out, rfl⟩
 case round =>
  rw [← hm]
  have hm' : m ≤ 1048576 := by omega
  clear HJ HX x1 x2 hm
  obtain ⟨k, x, p, rfl, hk, ⟨hx0, hx1⟩, hJ, hX, hch⟩ := hrel
  have HJ := zA hJ
  have HX := zA hX
  have HCH := zA hch
  have hnx : wr.cell? ⟨nb, 0, none⟩ = some (.int .i64 x) := (Aa0 hX 0).trans rfl
  clear hch hX
  by_cases hlk : k < m + 1
  ·have kl : (k : Int) < (m : Int) + 1 := by omega
   have hwk : wrap64 ((k : Int) + 1) = (k : Int) + 1 := by unfold wrap64; omega
   obtain ⟨fn, tmps, assign, body, hy, hR⟩ := HY.out p x wr hJ ⟨hx0, by rw [← HM.out]; exact hx1⟩
   clear hJ
   gi_wp2
   refine ⟨fun h => (by cases h), hR.mono ?_⟩
   rintro e w3 (⟨rfl, hJ3, hk3⟩ | ⟨rfl, hJx3⟩)
   ·obtain ⟨gp, gc⟩ := HGOOD.out _ _ hJ3
    obtain ⟨L, Ai, ci, Aa, ca, I, e1, e2, e3, e4, e5, e6⟩ := gc.ex
    have X3 := zA (hk3.trans HX.out)
    have J3 := zA hJ3
    have P3 := zA gp
    have C3 := zA e1
    obtain ⟨ae, A1', c1, A3, c3, A4, c4, A5, c5, ea, d0, d1, d2, d3, d4, d5, m1, r1, m3, r3, m4, r4, m5, r5⟩ := An8 e5 x hx0 (by rw [← HM.out]; exact hx1)
    subst ea
    have D1 := zA d1
    have S1 := zA r1
    have T1 : Aa2 (Ac2 (flat l) x = tyAt l x) := ⟨rfl⟩
    rw [T1.out] at D1 S1
    have SUP := zA (Bb8 HC.out hx0 (by rw [← HM.out]; exact hx1))
    clear hJ3 hk3 gp gc e1 e2 e3 e4 e5 e6 d0 d1 d2 d3 d4 d5 m1 r1 m3 r3 m4 r4 m5 r5 hy hR hnx T1
    rw [← HM.out] at C3
    obtain ⟨ss, hss⟩ : ∃ ss, ss = (tyAt l x).f1 := ⟨_, rfl⟩
    rw [← hss] at D1 S1 SUP
    have HSS := zA hss
    clear hss
    have hxm : x < (m : Int) := hx1
    gi_wp2
    refine wpIn_wide.2 ?_
    refine Ab3 (n := 9) (S := fun w' => w'.cell? ⟨pb, 0, none⟩ = some (.pointer (some ⟨cb, 0, none⟩)) ∧ w'.cell? ⟨cb, 2, none⟩ = some (.slice (some ae) m ca) ∧ w'.cell? ⟨nb, 0, none⟩ = some (.int .i64 x) ∧ w'.cell? ⟨(ae.add (x.toNat * 6)).block, (ae.add (x.toNat * 6)).off + 1, none⟩ = some (.slice A1' ss.length c1)) (ds := []) (bm_ 9 0) (by kernel_rfl) rfl rfl ⟨(Aa0 P3.out 0).trans rfl, (Aa0 C3.out 2).trans rfl, (Aa0 X3.out 0).trans rfl, D1.out⟩ (fun hHeld => ?_)
    refine tz_ 0 17 9 1 hHeld ?_
    refine pz_ 1 18 9 3 ?_
    refine pz_ 2 19 9 7 ?_
    refine tz_ 3 20 9 15 hHeld ?_
    refine tz_ 4 21 9 31 hHeld ?_
    refine pz_ 5 22 9 63 ?_
    refine pz_ 6 23 9 127 ?_
    refine tz_ 7 24 9 255 hHeld ?_
    refine pz_ 8 4 9 511 ?_
    refine dz_ ?_

    have J4 := zA (HDREW.out _ _ J3.out)
    have X4 : Aa2 (w3.drew.heap[nb]? = some (.cells #[.int .i64 x] 3 (0, 0))) := ⟨X3.out⟩
    have S4 : Aa2 ((Kd.int .i64).C w3.drew A1' ss.length ss) := ⟨Kd.C_drew S1.out⟩
    generalize w3.drew = w4 at J4 X4 S4 ⊢
    have hn4 : w4.cell? ⟨nb, 0, none⟩ = some (.int .i64 x) := (Aa0 X4.out 0).trans rfl
    have hf4 : w4.frozen? ⟨nb, 0, none⟩ = false := Aa1 X4.out 0
    have hk1 : m + 1 - k = (m - k) + 1 := by omega
    have hch := HCH.out
    rw [hk1] at hch
    rcases hz : ss with _ | ⟨y, t⟩
    ·subst hz
     rw [Br7 _ HSS.out.symm] at hch
     have HCE := zA hch
     clear hch hn4 hf4
     gi_wp2
     refine bodyPost_ret (results_none rfl _ _ _) rfl ?_
     exact ⟨⟨_, rfl⟩, .inl ⟨_, HM.out ▸ HCE.out, J4.out⟩⟩
    ·subst hz
     rw [Bz3 _ HSS.out.symm] at hch
     have HCE := zA hch
     clear hch
     obtain ⟨ai, z, eA, hz, hcz⟩ := Au7 S4.out 0 (by simp)
     subst eA
     obtain rfl : y = z := by simpa using hz
     have hy01 := SUP.out y (by simp)
     rw [← HM.out] at hy01
     have X5 := zA (Aa7 X4.out 0 (.int .i64 y))
     have J5 := zA (HSET.out _ _ (.int .i64 y) J4.out)
     have hcz' : w4.cell? ai = some (.int .i64 y) := by have e_ : ai.add 0 = ai := (by simp [Addr.add]); rw [e_] at hcz; exact hcz
     have h0l : (0 : Int) < ((y :: t).length : Int) := by simp
     gi_wp2
     go_roundw
     case rel => exact ⟨k + 1, y, p ++ [x], by go_num, by omega, hy01, J5.out, by simpa using X5.out, by have e_ : m + 1 - (k + 1) = m - k := (by omega); rw [e_, List.append_assoc]; exact HCE.out⟩
     case measure => simp [intOf]; omega
   ·gi_wp2
    refine bodyPost_ret (results_none rfl _ _ _) rfl ?_
    have hch := HCH.out
    have hk1 : m + 1 - k = (m - k) + 1 := by omega
    rw [hk1] at hch
    refine ⟨⟨_, rfl⟩, .inr ⟨p ++ [x], ?_, hJx3⟩⟩
    rw [← HM.out]
    refine ⟨(match (tyAt l x).f1 with | [] => [] | y :: _ => Ao5 l (m - k) y), ?_⟩
    rw [List.append_assoc]
    exact hch
  ·obtain rfl : k = m + 1 := by omega
   have hch := HCH.out
   rw [Nat.sub_self] at hch
   have HCE : Aa2 (p = Ao5 l (m + 1) x0) := ⟨by simpa [Ao5] using hch⟩
   clear hch hk hlk hnx
   gi_wp2
   go_end0
   exact ⟨⟨_, rfl⟩, .inl ⟨p, HM.out ▸ HCE.out, HJ.out⟩⟩
attribute [local go_sem] Oper.semAt_some
noncomputable def Ai7 (l : List S132) (a b : Int) : Bool :=
 if isM l a && isM l b then
  if a < 0 then
   if b < 0 then absM a b else decide (a = -10) && decide (Ae9 l b ≠ -1) || decide (a = -2) && decide (Ae9 l b = -1)
  else if b < 0 then absM (Ae9 l a) b
  else (Ao5 l ((flat l).length + 1) a).any fun x => (oneM l l (x.toNat : Int) (b.toNat : Int)).1
 else false
theorem Ae3 {fn : Func} {p : Tmp} {ty : TypeId} (h : fn.results = #[.cell p ty]) (tmps : Array Value) (P : Program) (w : World) :
  (results fn tmps).run P w = ((asAddr (tmps.getD p undef)).run P w).andThen fun a w₁ => (loadVar ty a).run P w₁ := by
 simp only [results, h]
 simp [Sem.run_bind, Result.andThen]
theorem Bb1 {l : List S132} {a b : Int} (h : ¬ (isM l a = true ∧ isM l b = true)) : Ai7 l a b = false := by
 unfold Ai7
 rw [if_neg]
 simpa using h
theorem As6 {l : List S132} {h : Int} (hh : isM l h = true) : -12 ≤ h ∧ h < ((flat l).length : Int) := by simpa [isM] using hh
theorem Bn5 (cb : Nat) (x : Int) (w : World) : Calls Tryz.prog 169 #[.pointer (some ⟨cb, 0, none⟩), .int .i64 x] w fun e w' => e = .returned (.func (.func 180) #[] #[.pointer (some ⟨w.heap.size, 0, none⟩), .pointer (some ⟨w.heap.size + 1, 0, none⟩)]) ∧ w' = (w.alloc (.cells #[.pointer (some ⟨cb, 0, none⟩)] 151)).alloc (.cells #[.int .i64 x] 3) := by
 go_enter Tryz.func169, Tryz.ntmps169
 go_wp2_with fail
 go_ret
 exact ⟨rfl, rfl⟩
theorem Bj3 {l : List S132} {a b : Int} (ha : isM l a = true) (hb : isM l b = true) (a0 : 0 ≤ a) (b0 : 0 ≤ b) : Ai7 l a b = true ↔ ∃ x ∈ Ao5 l ((flat l).length + 1) a, Bx2 l x.toNat b.toNat := by
 unfold Ai7
 rw [if_pos (by rw [ha, hb]; rfl), if_neg (by omega), if_neg (by omega)]
 rw [List.any_eq_true]
 exact Iff.rfl
structure HB (w : World) (cb : Nat) (b : Int) (v : Bool) (W : World) : Prop where
 b0 : W.heap[w.heap.size]? = some (.cells #[.pointer (some ⟨cb, 0, none⟩)] 151 (0, 0))
 b1 : W.heap[w.heap.size + 1]? = some (.cells #[.int .i64 b] 3 (0, 0))
 b2 : W.heap[w.heap.size + 1 + 1]? = some (.cells #[.bool v] 4 (0, 0))
 b3 : W.heap[w.heap.size + 1 + 1 + 1]? = some (.cells #[.pointer (some ⟨cb, 0, none⟩)] 151 (0, 0))
 bel : Below w.heap.size w W
theorem HB.put {w W : World} {cb : Nat} {b : Int} {v : Bool} (h : HB w cb b v W) (l : Nat) (o : Obj) (hl : w.heap.size + 1 + 1 + 1 < l) (hlt : l < W.heap.size) : HB w cb b v (W.putObj l o) :=
 ⟨(World.putObj_heap_other (by omega)).trans h.b0, (World.putObj_heap_other (by omega)).trans h.b1, (World.putObj_heap_other (by omega)).trans h.b2, (World.putObj_heap_other (by omega)).trans h.b3,
  h.bel.grown (grownBy_putObj' W l o) h.bel.size (fun k e => by cases e; omega)⟩
theorem HB.set {w W : World} {cb : Nat} {b : Int} {v : Bool} (h : HB w cb b v W) (l : Nat) (u : Value) (hl : w.heap.size + 1 + 1 + 1 < l) : HB w cb b v (W.setCell ⟨l, 0, none⟩ u) :=
 ⟨Ag6 h.b0 (show w.heap.size ≠ l by omega) u, Ag6 h.b1 (show w.heap.size + 1 ≠ l by omega) u, Ag6 h.b2 (show w.heap.size + 1 + 1 ≠ l by omega) u, Ag6 h.b3 (show w.heap.size + 1 + 1 + 1 ≠ l by omega) u, h.bel.trans ((Below.refl _ _).setCell (p := ⟨l, 0, none⟩) (by show w.heap.size ≤ l; omega) u)⟩
theorem HB.store {w W : World} {cb : Nat} {b : Int} {v : Bool} (h : HB w cb b v W) (u : Bool) : HB w cb b u (W.setCell ⟨w.heap.size + 1 + 1, 0, none⟩ (.bool u)) :=
 ⟨Ag6 h.b0 (show w.heap.size ≠ w.heap.size + 1 + 1 by omega) _, Ag6 h.b1 (show w.heap.size + 1 ≠ w.heap.size + 1 + 1 by omega) _, by have := Aa7 h.b2 0 (.bool u); simpa using this, Ag6 h.b3 (show w.heap.size + 1 + 1 + 1 ≠ w.heap.size + 1 + 1 by omega) _, h.bel.trans ((Below.refl _ _).setCell (p := ⟨w.heap.size + 1 + 1, 0, none⟩) (by show w.heap.size ≤ w.heap.size + 1 + 1; omega) _)⟩
theorem HB.stays {w : World} {cb : Nat} {b : Int} {v : Bool} {nb B : Nat} (hn : w.heap.size + 1 + 1 + 1 < nb) (hB : w.heap.size + 1 + 1 + 1 < B) (q : Prop) : Stays nb B (fun W => HB w cb b v W ∧ q) where
 put := fun W l o hl hlt h => ⟨h.1.put l o (by omega) hlt, h.2⟩
 set := fun W u h => ⟨h.1.set nb u hn, h.2⟩
 drew := fun W h => ⟨⟨h.1.b0, h.1.b1, h.1.b2, h.1.b3, h.1.bel.drew⟩, h.2⟩
 alloc := fun W o h => ⟨⟨Aa5 h.1.b0 o, Aa5 h.1.b1 o, Aa5 h.1.b2 o, Aa5 h.1.b3 o, h.1.bel.alloc h.1.bel.size o⟩, h.2⟩
set_option maxHeartbeats 8000000 in
theorem Bt0 (l : List S132) (hc : Clo l) (cb : Nat) (a b : Int) (w : World) (hctx : Ctx l cb w) (hll : (flat l).length ≤ 1048576) :
  Calls Tryz.prog 153 #[.pointer (some ⟨cb, 0, none⟩), .int .i64 a, .int .i64 b] w fun e w' => e = .returned (.bool (Ai7 l a b)) ∧ Below w.heap.size w w' := by
 have ba : Below w.heap.size w (((w.alloc (.cells #[.pointer (some ⟨cb, 0, none⟩)] 151)).alloc (.cells #[.int .i64 b] 3)).alloc (.cells #[.bool false] 4)) := ((bz_).alloc (by simp) _).alloc (by simp; omega) _
 have C0 := zA (hctx.below ba)
 have B0 := zA ba
 have HC := zA hc
 have HLL := zA hll
 have x0 : (((w.alloc (.cells #[.pointer (some ⟨cb, 0, none⟩)] 151)).alloc (.cells #[.int .i64 b] 3)).alloc (.cells #[.bool false] 4)).heap[w.heap.size]? = some (.cells #[.pointer (some ⟨cb, 0, none⟩)] 151 (0, 0)) := Aa5 (Aa5 (Aa6 w _) _) _
 have x1 : (((w.alloc (.cells #[.pointer (some ⟨cb, 0, none⟩)] 151)).alloc (.cells #[.int .i64 b] 3)).alloc (.cells #[.bool false] 4)).heap[w.heap.size + 1]? = some (.cells #[.int .i64 b] 3 (0, 0)) := by have h := Aa5 (Aa6 (w.alloc (.cells #[.pointer (some ⟨cb, 0, none⟩)] 151)) (.cells #[.int .i64 b] 3)) (.cells #[.bool false] 4); rw [World.size_alloc] at h; exact h
 have x2 : (((w.alloc (.cells #[.pointer (some ⟨cb, 0, none⟩)] 151)).alloc (.cells #[.int .i64 b] 3)).alloc (.cells #[.bool false] 4)).heap[w.heap.size + 1 + 1]? = some (.cells #[.bool false] 4 (0, 0)) := by have h := Aa6 ((w.alloc (.cells #[.pointer (some ⟨cb, 0, none⟩)] 151)).alloc (.cells #[.int .i64 b] 3)) (.cells #[.bool false] 4); rw [World.size_alloc, World.size_alloc] at h; exact h
 have hout : ∀ v : Bool, Below w.heap.size w (((w.alloc (.cells #[.pointer (some ⟨cb, 0, none⟩)] 151)).alloc (.cells #[.int .i64 b] 3)).alloc (.cells #[.bool v] 4)) := fun v => ((bz_).alloc (by simp) _).alloc (by simp; omega) _
 have HOUT := zA hout
 have CW := zA hctx
 clear ba hctx hc hll hout
 by_cases ha : isM l a = true
 ·by_cases hb : isM l b = true
  ·obtain ⟨ha0, ha1⟩ := As6 ha
   obtain ⟨hb0, hb1⟩ := As6 hb
   by_cases na : a < 0
   ·by_cases nb : b < 0
    ·have EM : Aa2 (Ai7 l a b = absM a b) := ⟨by unfold Ai7; rw [if_pos (by rw [ha, hb]; rfl), if_pos na, if_pos nb]⟩
     have K1 := Ag7 l cb a _ C0.out
     have K2 := Ag7 l cb b _ C0.out
     rw [ha] at K1
     rw [hb] at K2
     have K3 := Aq7 a b (((w.alloc (.cells #[.pointer (some ⟨cb, 0, none⟩)] 151)).alloc (.cells #[.int .i64 b] 3)).alloc (.cells #[.bool false] 4)) ha0 na hb0 nb
     rw [← EM.out] at K3
     clear ha hb x0 x1 x2
     go_enter Tryz.func153, Tryz.ntmps153
     go_wp2_with (first | ((with_reducible refine K1.mono ?_); rintro e w1 ⟨rfl, rfl⟩) | ((with_reducible refine K2.mono ?_); rintro e w1 ⟨rfl, rfl⟩) | ((with_reducible refine K3.mono ?_); rintro e w1 ⟨rfl, rfl⟩))
     refine bodyPost_ret (v := .bool (Ai7 l a b)) ?_ rfl ?_
     ·rw [Ae3 rfl]; go_simp
     ·exact ⟨rfl, HOUT.out _⟩
    ·have EM : Aa2 (Ai7 l a b = (decide (a = -10) && decide (Ae9 l b ≠ -1) || decide (a = -2) && decide (Ae9 l b = -1))) := ⟨by unfold Ai7; rw [if_pos (by rw [ha, hb]; rfl), if_pos na, if_neg nb]⟩
     have K1 := Ag7 l cb a _ C0.out
     have K2 := Ag7 l cb b _ C0.out
     rw [ha] at K1
     rw [hb] at K2
     have K3 := Bc1 l cb b _ C0.out (by omega) hb1
     have hk := Ba6 (tyAt l b).f2.f0
     obtain ⟨kb, hkb⟩ : ∃ kb, kb = Ae9 l b := ⟨_, rfl⟩
     rw [← hkb] at K3 EM
     replace hk : kb = -1 ∨ kb = -8 ∨ kb = -9 := by rw [hkb]; exact hk
     clear ha hb x0 x1 x2 hkb
     by_cases a10 : a = -10
     ·subst a10
      rcases hk with rfl | rfl | rfl
      all_goals
       go_enter Tryz.func153, Tryz.ntmps153
       go_wp2_with (first | ((with_reducible refine K1.mono ?_); rintro e w1 ⟨rfl, rfl⟩) | ((with_reducible refine K2.mono ?_); rintro e w1 ⟨rfl, rfl⟩) | ((with_reducible refine K3.mono ?_); rintro e w1 ⟨rfl, rfl⟩))
       refine bodyPost_ret (v := .bool (Ai7 l (-10) b)) ?_ rfl ?_
       ·rw [EM.out, Ae3 rfl]; go_simp
       ·exact ⟨rfl, HOUT.out _⟩
     ·have e10 : (a == -10) = false := by simp [a10]
      by_cases a2 : a = -2
      ·subst a2
       rcases hk with rfl | rfl | rfl
       all_goals
        go_enter Tryz.func153, Tryz.ntmps153
        go_wp2_with (first | ((with_reducible refine K1.mono ?_); rintro e w1 ⟨rfl, rfl⟩) | ((with_reducible refine K2.mono ?_); rintro e w1 ⟨rfl, rfl⟩) | ((with_reducible refine K3.mono ?_); rintro e w1 ⟨rfl, rfl⟩))
        refine bodyPost_ret (v := .bool (Ai7 l (-2) b)) ?_ rfl ?_
        ·rw [EM.out, Ae3 rfl]; go_simp
        ·exact ⟨rfl, HOUT.out _⟩
      ·have e2 : (a == -2) = false := by simp [a2]
       have EF : Aa2 (Ai7 l a b = false) := ⟨by rw [EM.out]; simp [a10, a2]⟩
       go_enter Tryz.func153, Tryz.ntmps153
       go_wp2_with (first | ((with_reducible refine K1.mono ?_); rintro e w1 ⟨rfl, rfl⟩) | ((with_reducible refine K2.mono ?_); rintro e w1 ⟨rfl, rfl⟩) | ((with_reducible refine K3.mono ?_); rintro e w1 ⟨rfl, rfl⟩))
       refine bodyPost_ret (v := .bool (Ai7 l a b)) ?_ rfl ?_
       ·rw [EF.out, Ae3 rfl]; go_simp
       ·exact ⟨rfl, HOUT.out _⟩
   ·by_cases nb : b < 0
    ·have EM : Aa2 (Ai7 l a b = absM (Ae9 l a) b) := ⟨by unfold Ai7; rw [if_pos (by rw [ha, hb]; rfl), if_neg na, if_pos nb]⟩
     have K1 := Ag7 l cb a _ C0.out
     have K2 := Ag7 l cb b _ C0.out
     rw [ha] at K1
     rw [hb] at K2
     have hkin := Ba6 (tyAt l a).f2.f0
     have hkin' : Ae9 l a = -1 ∨ Ae9 l a = -8 ∨ Ae9 l a = -9 := hkin
     have HKI := zA hkin'
     clear hkin hkin'
     go_enter Tryz.func153, Tryz.ntmps153
     go_wp2_with (first | ((with_reducible refine K1.mono ?_); rintro e w1 ⟨rfl, rfl⟩) | ((with_reducible refine K2.mono ?_); rintro e w1 ⟨rfl, rfl⟩))
     have HA : Aa2 (0 ≤ a ∧ a < ((flat l).length : Int)) := ⟨by omega, ha1⟩
     have HB : Aa2 (-12 ≤ b ∧ b < 0) := ⟨hb0, nb⟩
     have HK0 : Aa2 (-12 ≤ Ae9 l a ∧ Ae9 l a < 0) := ⟨by rcases HKI.out with h | h | h <;> rw [h] <;> decide⟩
     have Y0 : (World.heap ((((w.alloc (.cells #[.pointer (some ⟨cb, 0, none⟩)] 151)).alloc (.cells #[.int .i64 b] 3)).alloc (.cells #[.bool false] 4)).drew))[w.heap.size]? = some (.cells #[.pointer (some ⟨cb, 0, none⟩)] 151 (0, 0)) := x0
     have Y1 : (World.heap ((((w.alloc (.cells #[.pointer (some ⟨cb, 0, none⟩)] 151)).alloc (.cells #[.int .i64 b] 3)).alloc (.cells #[.bool false] 4)).drew))[w.heap.size + 1]? = some (.cells #[.int .i64 b] 3 (0, 0)) := x1
     have Y2 : (World.heap ((((w.alloc (.cells #[.pointer (some ⟨cb, 0, none⟩)] 151)).alloc (.cells #[.int .i64 b] 3)).alloc (.cells #[.bool false] 4)).drew))[w.heap.size + 1 + 1]? = some (.cells #[.bool false] 4 (0, 0)) := x2
     have C5 : Aa2 (Ctx l cb ((((w.alloc (.cells #[.pointer (some ⟨cb, 0, none⟩)] 151)).alloc (.cells #[.int .i64 b] 3)).alloc (.cells #[.bool false] 4)).drew)) := ⟨C0.out.below ⟨rfl, rfl, rfl, Nat.le_refl _, fun _ _ => rfl⟩⟩
     have B5 : Aa2 (Below w.heap.size w ((((w.alloc (.cells #[.pointer (some ⟨cb, 0, none⟩)] 151)).alloc (.cells #[.int .i64 b] 3)).alloc (.cells #[.bool false] 4)).drew)) := ⟨B0.out.drew⟩
     refine Ab3 (n := 6) (S := fun w' => w'.cell? ⟨w.heap.size, 0, none⟩ = some (.pointer (some ⟨cb, 0, none⟩)) ∧ w'.cell? ⟨w.heap.size + 1, 0, none⟩ = some (.int .i64 b) ∧ w'.cell? ⟨w.heap.size + 1 + 1, 0, none⟩ = some (.bool false) ∧ w'.frozen? ⟨w.heap.size + 1 + 1, 0, none⟩ = false) (ds := [5]) (bm_ 6 0) (by kernel_rfl) rfl rfl ⟨(Aa0 Y0 0).trans rfl, (Aa0 Y1 0).trans rfl, (Aa0 Y2 0).trans rfl, Aa1 Y2 0⟩ (fun hHeld => ?_)
     generalize World.drew _ = w5 at Y0 Y1 Y2 C5 B5 hHeld ⊢
     refine pz_ 1 34 6 2 ?_
     refine tz_ 0 33 6 3 hHeld ?_
     refine tz_ 3 36 6 11 hHeld ?_
     refine oz_ 2 35 6 15 fun K hK => ?_
     refine gz_ Tryz.func168 #[.pointer (some ⟨cb, 0, none⟩), .int .i64 a] ?_
     refine (Bc1 l cb a w5 C5.out HA.out.1 HA.out.2).mono ?_
     rintro e w6 ⟨rfl, rfl⟩
     refine ⟨_, rfl, ?_⟩
     refine hK.out _ _ ⟨(Aa0 Y0 0).trans rfl, (Aa0 Y1 0).trans rfl, (Aa0 Y2 0).trans rfl, Aa1 Y2 0⟩ (fun hHeld => ?_)
     clear hK K
     refine nz_ ?_
     refine oz_ 4 37 6 31 fun K hK => ?_
     refine gz_ Tryz.func167 #[.int .i64 (Ae9 l a), .int .i64 b] ?_
     refine (Aq7 (Ae9 l a) b w6 HK0.out.1 HK0.out.2 HB.out.1 HB.out.2).mono ?_
     rintro e w6 ⟨rfl, rfl⟩
     refine ⟨_, rfl, ?_⟩
     refine hK.out _ _ ⟨(Aa0 Y0 0).trans rfl, (Aa0 Y1 0).trans rfl, (Aa0 Y2 0).trans rfl, Aa1 Y2 0⟩ (fun hHeld => ?_)
     clear hK K
     refine nz_ ?_
     refine Ag8 (i := 5) (N := none) (bm_ 6 63) rfl rfl (by kernel_rfl) (by decide) (fun K hK => ?_)
     have hs_ := bc_ Y2 0
     have hfs_ := Aa1 Y2 0
     refine sz_ ?_
     refine hK.out _ _ ?_
     clear hK K
     refine dz_ ?_

     have Z2 := Aa7 Y2 0 (.bool (absM (Ae9 l a) b))
     have zc := bc_ Z2 0
     have B6 : Below w.heap.size w (w6.setCell ⟨w.heap.size + 1 + 1, 0, none⟩ (.bool (absM (Ae9 l a) b))) := B5.out.trans ((Below.refl _ _).setCell (p := ⟨w.heap.size + 1 + 1, 0, none⟩) (by show w.heap.size ≤ w.heap.size + 1 + 1; omega) _)
     go_wp2_with fail
     refine bodyPost_ret (v := .bool (Ai7 l a b)) ?_ rfl ?_
     ·rw [EM.out, Ae3 rfl]; go_simp
     ·exact ⟨rfl, B6⟩
    ·have K1 := Ag7 l cb a _ C0.out
     have K2 := Ag7 l cb b _ C0.out
     rw [ha] at K1
     rw [hb] at K2
     have K3 := Bn5 cb a (((w.alloc (.cells #[.pointer (some ⟨cb, 0, none⟩)] 151)).alloc (.cells #[.int .i64 b] 3)).alloc (.cells #[.bool false] 4))
     refine (callsIn_wide (n := 5)).1 ?_
     refine callsIn_of_wp_marks Tryz.func153 rfl trivial ?_ rfl
     simp only [Tryz.ntmps153, List.size_toArray, List.length_cons, List.length_nil, Nat.reduceAdd, Nat.reduceSub, Array.replicate_succ, Array.replicate_zero, List.push_toArray, List.append_toArray, List.nil_append, List.cons_append]
     gi_wp2_with (refine ⟨trivial, ?_⟩; first | (gi_at_call 166; first | ((with_reducible refine (callsIn_wide.2 K1).mono ?_); rintro e w1 ⟨rfl, rfl⟩) | ((with_reducible refine (callsIn_wide.2 K2).mono ?_); rintro e w1 ⟨rfl, rfl⟩)) | (gi_at_call 169; refine (callsIn_wide.2 K3).mono ?_; rintro e w1 ⟨rfl, rfl⟩))
     obtain ⟨W4, hW4⟩ : ∃ W4, W4 = (((((w.alloc (.cells #[.pointer (some ⟨cb, 0, none⟩)] 151)).alloc (.cells #[.int .i64 b] 3)).alloc (.cells #[.bool false] 4)).alloc (.cells #[.pointer (some ⟨cb, 0, none⟩)] 151)).alloc (.cells #[.int .i64 a] 3)) := ⟨_, rfl⟩
     have hs4 : W4.heap.size = w.heap.size + 1 + 1 + 1 + 1 + 1 := by rw [hW4]; simp
     have hb4 : HB w cb b false W4 := ⟨by rw [hW4]; exact Aa5 (Aa5 x0 _) _, by rw [hW4]; exact Aa5 (Aa5 x1 _) _, by rw [hW4]; exact Aa5 (Aa5 x2 _) _,
      by rw [hW4]; have h := Aa5 (Aa6 (((w.alloc (.cells #[.pointer (some ⟨cb, 0, none⟩)] 151)).alloc (.cells #[.int .i64 b] 3)).alloc (.cells #[.bool false] 4)) (.cells #[.pointer (some ⟨cb, 0, none⟩)] 151)) (.cells #[.int .i64 a] 3); simpa using h,
      by rw [hW4]; exact (B0.out.alloc (by simp; omega) _).alloc (by simp; omega) _⟩
     have hx4 : W4.heap[w.heap.size + 1 + 1 + 1 + 1]? = some (.cells #[.int .i64 a] 3 (0, 0)) := by rw [hW4]; have h := Aa6 ((((w.alloc (.cells #[.pointer (some ⟨cb, 0, none⟩)] 151)).alloc (.cells #[.int .i64 b] 3)).alloc (.cells #[.bool false] 4)).alloc (.cells #[.pointer (some ⟨cb, 0, none⟩)] 151)) (.cells #[.int .i64 a] 3); simpa using h
     rw [← hW4]
     have ha' := ha
     have hb' := hb
     clear hW4 K1 K2 K3 x0 x1 x2 C0 B0 HOUT ha hb
     have H4 := zA hb4
     have X4 := zA hx4
     have S4 := zA hs4
     clear hb4 hx4 hs4
     refine Cb3 (gf := 180) (lb := #[.pointer (some ⟨w.heap.size + 1 + 1 + 1, 0, none⟩), .pointer (some ⟨w.heap.size + 1 + 1 + 1 + 1, 0, none⟩)]) (nb := w.heap.size + 1 + 1 + 1 + 1) rfl (fun args w => Am6 Tryz.func180 (by kernel_rfl) rfl args w) rfl
      (Cl8 l HC.out cb (w.heap.size + 1 + 1 + 1) (w.heap.size + 1 + 1 + 1 + 1) a (by omega) ha1 HLL.out 4) (by rw [S4.out]; omega) X4.out
      (fun p W => HB w cb b false W ∧ ∀ x ∈ p, ¬ Bx2 l x.toNat b.toNat)
      (fun c p W => c = .ret ∧ HB w cb b true W ∧ ∃ x ∈ p, Bx2 l x.toNat b.toNat)
      (fun p => HB.stays (by omega) (by rw [S4.out]; omega) _) (fun p W h => ⟨h.1.b3, CW.out.below h.1.bel⟩)
      (fun c p W l_ o hl hlt h => ⟨h.1, h.2.1.put l_ o (by rw [S4.out] at hl; omega) hlt, h.2.2⟩) ⟨H4.out, fun x hx => by cases hx⟩ ?a1 ?assign ?body ?done ?stop
     case assign =>
      intro rl x W K hK
      gi_wp2
      exact hK
     case body =>
      rintro rl p x W ⟨hB, hp⟩ ⟨hx0, hx1⟩
      have HB0 := zA hB
      have HP0 := zA hp
      obtain ⟨L, Ai, ci, Aa, ca, I, e1, e2, e3, e4, e5, e6⟩ := (CW.out.below hB.bel).ex
      have hIl : I.length = (flat l).length := e6.1
      obtain ⟨ai, v1, eA, g1, q1⟩ := Au7 e4 x.toNat (by omega)
      subst eA
      obtain ⟨ai', v2, eA, g2, q2⟩ := Au7 e4 b.toNat (by omega)
      injection eA with eA
      subst eA
      have y0 := bc_ hB.b0 0
      have y1 := bc_ hB.b1 0
      have y2 := bc_ e1 1
      have SI : Aa2 (v1 = v2 ↔ Bx2 l x.toNat b.toNat) := ⟨by rw [← e6.2 x.toNat b.toNat (by omega) (by omega), g1, g2]; simp⟩
      have hxl : x < (I.length : Int) := by omega
      have hbl : b < (I.length : Int) := by omega
      clear e1 e2 e3 e4 e5 e6 hB hp g1 g2 hIl hx1
      gi_wp2
      refine startR_ (by rintro ⟨_, _, h_⟩; exact h_) (by kernel_rfl) (n := 15) (S := fun w' => w'.cell? ⟨w.heap.size, 0, none⟩ = some (.pointer (some ⟨cb, 0, none⟩)) ∧ w'.cell? ⟨w.heap.size + 1, 0, none⟩ = some (.int .i64 b) ∧ w'.cell? ⟨cb, 1, none⟩ = some (.slice (some ai) I.length ci) ∧ w'.cell? (ai.add x.toNat) = some (.int .i64 v1) ∧ w'.cell? (ai.add b.toNat) = some (.int .i64 v2)) (ds := []) #[false, false, false, false, false, false, false, false, false, false, false, false, false, false, false] (by kernel_rfl) rfl rfl ⟨y0, y1, y2, q1, q2⟩ (fun hHeld => ?_)
      refine pz_ 4 66 15 16 ?_
      refine tz_ 0 62 15 17 hHeld ?_
      refine pz_ 1 63 15 19 ?_
      refine pz_ 2 64 15 23 ?_
      refine tz_ 3 65 15 31 hHeld ?_
      refine pz_ 5 67 15 63 ?_
      refine tz_ 6 68 15 127 hHeld ?_
      refine tz_ 7 69 15 255 hHeld ?_
      refine pz_ 8 70 15 511 ?_
      refine pz_ 9 71 15 1023 ?_
      refine tz_ 10 72 15 2047 hHeld ?_
      refine tz_ 11 73 15 4095 hHeld ?_
      refine pz_ 12 74 15 8191 ?_
      refine tz_ 13 75 15 16383 hHeld ?_
      refine pz_ 14 76 15 32767 ?_
      refine dz_ ?_

      have HBD : Aa2 (HB w cb b false W.drew) := ⟨⟨HB0.out.b0, HB0.out.b1, HB0.out.b2, HB0.out.b3, HB0.out.bel.drew⟩⟩
      have ED : Aa2 (W.drew.heap = W.heap) := ⟨rfl⟩
      clear hHeld y0 y1 y2 q1 q2
      generalize W.drew = Wd at HBD ED ⊢
      by_cases hv : v1 = v2
      ·have hbe : (v1 == v2) = true := by simp [hv]
       have z2 := bc_ HBD.out.b2 0
       have f2 := Aa1 HBD.out.b2 0
       gi_wp2
       refine ⟨⟨?_, fun k hk1 hk2 => ?_⟩, rfl, HBD.out.store true, x, by simp, SI.out.1 hv⟩
       ·rw [← ED.out]; simp
       ·rw [← ED.out]; exact Below.heap_setCell Wd ⟨w.heap.size + 1 + 1, 0, none⟩ _ k (by rw [S4.out] at hk1; show k ≠ w.heap.size + 1 + 1; omega)
      ·have hbe : (v1 == v2) = false := by simp [hv]
       gi_wp2
       refine ⟨⟨by rw [ED.out]; exact Nat.le_refl _, by rw [ED.out], fun k _ _ => by rw [ED.out]⟩, HBD.out, fun y hy => ?_⟩
       rcases List.mem_append.1 hy with hy | hy
       ·exact HP0.out y hy
       ·rw [List.mem_singleton.1 hy]; exact fun hs => hv (SI.out.2 hs)
     case done =>
      rintro D p W hD rfl ⟨hB, hp⟩ hK
      have EF : Aa2 (Ai7 l a b = false) := ⟨by
       rw [Bool.eq_false_iff]
       intro h
       obtain ⟨x, hx, hs⟩ := (Bj3 ha' hb' (by omega) (by omega)).1 h
       exact hp x hx hs⟩
      have z2 := bc_ hB.b2 0
      have f2 := Aa1 hB.b2 0
      gi_wp2
      have hB2 := hB.store false
      have hK2 : (W.setCell ⟨w.heap.size + 1 + 1, 0, none⟩ (.bool false)).heap[D]? = some (.deferred (some [])) := (Below.heap_setCell W ⟨w.heap.size + 1 + 1, 0, none⟩ _ D (by rw [S4.out] at hD; show D ≠ w.heap.size + 1 + 1; omega)).trans hK
      have hE := hB2.put D (.deferred none) (by rw [S4.out] at hD; omega) (An7 hK2)
      have zc := bc_ hE.b2 0
      refine ⟨by simp, .inl ⟨_, _, rfl, run_takeDeferred hK2, ?_⟩⟩
      refine ⟨.bool false, ?_, by rw [EF.out], hE.bel⟩
      rw [Ae3 rfl]
      go_simp
     case stop =>
      rintro D c p W hD ⟨t, ht⟩ ⟨rfl, hB, x, hx, hs⟩ hK
      gi_wp2
      have EF : Aa2 (Ai7 l a b = true) := ⟨(Bj3 ha' hb' (by omega) (by omega)).2 ⟨x, by rw [← ht]; exact List.mem_append_left _ hx, hs⟩⟩
      have hE := hB.put D (.deferred none) (by rw [S4.out] at hD; omega) (An7 hK)
      have zc := bc_ hE.b2 0
      refine ⟨by simp, .inl ⟨_, _, rfl, run_takeDeferred hK, ?_⟩⟩
      refine ⟨.bool true, ?_, by rw [EF.out], hE.bel⟩
      rw [Ae3 rfl]
      go_simp
  ·have EM : Aa2 (Ai7 l a b = false) := ⟨Bb1 (fun h => hb h.2)⟩
   have fb : isM l b = false := by simpa using hb
   have K1 := Ag7 l cb a _ C0.out
   have K2 := Ag7 l cb b _ C0.out
   rw [ha] at K1
   rw [fb] at K2
   clear ha hb fb
   go_enter Tryz.func153, Tryz.ntmps153
   go_wp2_with (first | ((with_reducible refine K1.mono ?_); rintro e w1 ⟨rfl, rfl⟩) | ((with_reducible refine K2.mono ?_); rintro e w1 ⟨rfl, rfl⟩))
   refine bodyPost_ret (v := .bool false) ?_ rfl ?_
   ·rw [Ae3 rfl]; go_simp
   ·exact ⟨by rw [EM.out], HOUT.out false⟩
 ·have EM : Aa2 (Ai7 l a b = false) := ⟨Bb1 (fun h => ha h.1)⟩
  have fa : isM l a = false := by simpa using ha
  have K1 := Ag7 l cb a _ C0.out
  rw [fa] at K1
  clear ha fa
  go_enter Tryz.func153, Tryz.ntmps153
  go_wp2_with ((with_reducible refine K1.mono ?_); rintro e w1 ⟨rfl, rfl⟩)
  refine bodyPost_ret (v := .bool false) ?_ rfl ?_
  ·rw [Ae3 rfl]; go_simp
  ·exact ⟨by rw [EM.out], HOUT.out false⟩
end Go.Proofs.YtohlmkcgempdlaaGreatDoor.Cn
namespace Go.Proofs.YtohlmkcgempdlaaGreatDoor.QD
open Go.RowKit Go.Proofs.YtohlmkcgempdlaaGreatDoorW.PrintWords Go.Proofs.YtohlmkcgempdlaaGreatDoorW.PrintLast Go.Proofs.YtohlmkcgempdlaaGreatDoorW.PrintMore
attribute [local go_sem] An1 Am9 Ar1 Ar0 Ak8 Ak7 An0 Am8 
set_option linter.unusedVariables false
set_option linter.unusedSimpArgs false
set_option maxRecDepth 100000
def ratchetref07_abstract.j0 : Nat → Int → Int → Bool → Option (Bool)
 | 0, _, _, _ => none
 | k + 1, x0, x8, x45 => if x45 = true then (some (x0 == (-10))) else (if x8 = (-1) then (some (x0 == (-2))) else (if x8 = (-3) then (some (x0 == (-4))) else (if x8 = (-11) then (some (x0 == (-12))) else (some false))))
def ratchetref07_abstract.f (k : Nat) (a0 : Int) (a1 : Int) : Option (Bool) := if a0 = a1 then (some true) else (if a1 = (-5) then (if a0 = (-6) then (some true) else (if a0 = (-7) then (some true) else (if a0 = (-8) then (some true) else (if a0 = (-9) then (some true) else (some (a0 == (-10))))))) else (if a1 = (-6) then (if a0 = (-7) then (some true) else (if a0 = (-8) then (some true) else (if a0 = (-9) then (some true) else (some (a0 == (-10)))))) else (if a1 = (-7) then (ratchetref07_abstract.j0 k a0 a1 (a1 == (-7))) else (if a1 = (-8) then (ratchetref07_abstract.j0 k a0 a1 (a1 == (-8))) else (ratchetref07_abstract.j0 k a0 a1 (a1 == (-9)))))))
set_option maxHeartbeats 8000000 in
theorem ratchetref07_abstract.calls (k : Nat) (a0 : Int) (a1 : Int) (r : Bool) (w : World) (h : ratchetref07_abstract.f k a0 a1 = some r) :
  Calls Tryz.prog 181 #[.int .i64 a0, .int .i64 a1] w fun e w' => e = .returned (.bool r) ∧ Ab6 w w' := by
 have H : (if a0 = a1 then (some true) else (if a1 = (-5) then (if a0 = (-6) then (some true) else (if a0 = (-7) then (some true) else (if a0 = (-8) then (some true) else (if a0 = (-9) then (some true) else (some (a0 == (-10))))))) else (if a1 = (-6) then (if a0 = (-7) then (some true) else (if a0 = (-8) then (some true) else (if a0 = (-9) then (some true) else (some (a0 == (-10)))))) else (if a1 = (-7) then (ratchetref07_abstract.j0 k a0 a1 (a1 == (-7))) else (if a1 = (-8) then (ratchetref07_abstract.j0 k a0 a1 (a1 == (-8))) else (ratchetref07_abstract.j0 k a0 a1 (a1 == (-9)))))))) = some r := h
 clear h
 by_cases c3 : a0 = a1
 ·rw [if_pos c3] at H
  have c3b0 : (a0 == a1) = true := beq_iff_eq.mpr c3
  have c3b1 : (a0 != a1) = false := bne_eq_false_iff_eq.mpr c3
  clear c3
  obtain rfl := Option.some.inj H
  go_enter Tryz.func181, Tryz.ntmps181
  go_wp2
  go_ret
  exact ⟨by first | rfl | (simp; done) | (simp [*]; done), by repeat (first | exact Ab6.refl _ | apply Ab6.step)⟩
 ·rw [if_neg c3] at H
  have c3b0 : (a0 == a1) = false := beq_eq_false_iff_ne.mpr c3
  have c3b1 : (a0 != a1) = true := bne_iff_ne.mpr c3
  by_cases c4 : a1 = (-5)
  ·rw [if_pos c4] at H
   have c4b0 : (a1 == (-5)) = true := beq_iff_eq.mpr c4
   have c4b1 : (a1 != (-5)) = false := bne_eq_false_iff_eq.mpr c4
   clear c4
   by_cases c5 : a0 = (-6)
   ·rw [if_pos c5] at H
    have c5b0 : (a0 == (-6)) = true := beq_iff_eq.mpr c5
    have c5b1 : (a0 != (-6)) = false := bne_eq_false_iff_eq.mpr c5
    clear c5
    obtain rfl := Option.some.inj H
    go_enter Tryz.func181, Tryz.ntmps181
    go_wp2
    go_ret
    exact ⟨by first | rfl | (simp; done) | (simp [*]; done), by repeat (first | exact Ab6.refl _ | apply Ab6.step)⟩
   ·rw [if_neg c5] at H
    have c5b0 : (a0 == (-6)) = false := beq_eq_false_iff_ne.mpr c5
    have c5b1 : (a0 != (-6)) = true := bne_iff_ne.mpr c5
    by_cases c6 : a0 = (-7)
    ·rw [if_pos c6] at H
     have c6b0 : (a0 == (-7)) = true := beq_iff_eq.mpr c6
     have c6b1 : (a0 != (-7)) = false := bne_eq_false_iff_eq.mpr c6
     clear c6
     obtain rfl := Option.some.inj H
     go_enter Tryz.func181, Tryz.ntmps181
     go_wp2
     go_ret
     exact ⟨by first | rfl | (simp; done) | (simp [*]; done), by repeat (first | exact Ab6.refl _ | apply Ab6.step)⟩
    ·rw [if_neg c6] at H
     have c6b0 : (a0 == (-7)) = false := beq_eq_false_iff_ne.mpr c6
     have c6b1 : (a0 != (-7)) = true := bne_iff_ne.mpr c6
     by_cases c7 : a0 = (-8)
     ·rw [if_pos c7] at H
      have c7b0 : (a0 == (-8)) = true := beq_iff_eq.mpr c7
      have c7b1 : (a0 != (-8)) = false := bne_eq_false_iff_eq.mpr c7
      clear c7
      obtain rfl := Option.some.inj H
      go_enter Tryz.func181, Tryz.ntmps181
      go_wp2
      go_ret
      exact ⟨by first | rfl | (simp; done) | (simp [*]; done), by repeat (first | exact Ab6.refl _ | apply Ab6.step)⟩
     ·rw [if_neg c7] at H
      have c7b0 : (a0 == (-8)) = false := beq_eq_false_iff_ne.mpr c7
      have c7b1 : (a0 != (-8)) = true := bne_iff_ne.mpr c7
      by_cases c8 : a0 = (-9)
      ·rw [if_pos c8] at H
       have c8b0 : (a0 == (-9)) = true := beq_iff_eq.mpr c8
       have c8b1 : (a0 != (-9)) = false := bne_eq_false_iff_eq.mpr c8
       clear c8
       obtain rfl := Option.some.inj H
       go_enter Tryz.func181, Tryz.ntmps181
       go_wp2
       go_ret
       exact ⟨by first | rfl | (simp; done) | (simp [*]; done), by repeat (first | exact Ab6.refl _ | apply Ab6.step)⟩
      ·rw [if_neg c8] at H
       have c8b0 : (a0 == (-9)) = false := beq_eq_false_iff_ne.mpr c8
       have c8b1 : (a0 != (-9)) = true := bne_iff_ne.mpr c8
       obtain rfl := Option.some.inj H
       go_enter Tryz.func181, Tryz.ntmps181
       go_wp2
       go_ret
       exact ⟨by first | rfl | (simp; done) | (simp [*]; done), by repeat (first | exact Ab6.refl _ | apply Ab6.step)⟩
  ·rw [if_neg c4] at H
   have c4b0 : (a1 == (-5)) = false := beq_eq_false_iff_ne.mpr c4
   have c4b1 : (a1 != (-5)) = true := bne_iff_ne.mpr c4
   by_cases c9 : a1 = (-6)
   ·rw [if_pos c9] at H
    have c9b0 : (a1 == (-6)) = true := beq_iff_eq.mpr c9
    have c9b1 : (a1 != (-6)) = false := bne_eq_false_iff_eq.mpr c9
    clear c9
    by_cases c10 : a0 = (-7)
    ·rw [if_pos c10] at H
     have c10b0 : (a0 == (-7)) = true := beq_iff_eq.mpr c10
     have c10b1 : (a0 != (-7)) = false := bne_eq_false_iff_eq.mpr c10
     clear c10
     obtain rfl := Option.some.inj H
     go_enter Tryz.func181, Tryz.ntmps181
     go_wp2
     go_ret
     exact ⟨by first | rfl | (simp; done) | (simp [*]; done), by repeat (first | exact Ab6.refl _ | apply Ab6.step)⟩
    ·rw [if_neg c10] at H
     have c10b0 : (a0 == (-7)) = false := beq_eq_false_iff_ne.mpr c10
     have c10b1 : (a0 != (-7)) = true := bne_iff_ne.mpr c10
     by_cases c11 : a0 = (-8)
     ·rw [if_pos c11] at H
      have c11b0 : (a0 == (-8)) = true := beq_iff_eq.mpr c11
      have c11b1 : (a0 != (-8)) = false := bne_eq_false_iff_eq.mpr c11
      clear c11
      obtain rfl := Option.some.inj H
      go_enter Tryz.func181, Tryz.ntmps181
      go_wp2
      go_ret
      exact ⟨by first | rfl | (simp; done) | (simp [*]; done), by repeat (first | exact Ab6.refl _ | apply Ab6.step)⟩
     ·rw [if_neg c11] at H
      have c11b0 : (a0 == (-8)) = false := beq_eq_false_iff_ne.mpr c11
      have c11b1 : (a0 != (-8)) = true := bne_iff_ne.mpr c11
      by_cases c12 : a0 = (-9)
      ·rw [if_pos c12] at H
       have c12b0 : (a0 == (-9)) = true := beq_iff_eq.mpr c12
       have c12b1 : (a0 != (-9)) = false := bne_eq_false_iff_eq.mpr c12
       clear c12
       obtain rfl := Option.some.inj H
       go_enter Tryz.func181, Tryz.ntmps181
       go_wp2
       go_ret
       exact ⟨by first | rfl | (simp; done) | (simp [*]; done), by repeat (first | exact Ab6.refl _ | apply Ab6.step)⟩
      ·rw [if_neg c12] at H
       have c12b0 : (a0 == (-9)) = false := beq_eq_false_iff_ne.mpr c12
       have c12b1 : (a0 != (-9)) = true := bne_iff_ne.mpr c12
       obtain rfl := Option.some.inj H
       go_enter Tryz.func181, Tryz.ntmps181
       go_wp2
       go_ret
       exact ⟨by first | rfl | (simp; done) | (simp [*]; done), by repeat (first | exact Ab6.refl _ | apply Ab6.step)⟩
   ·rw [if_neg c9] at H
    have c9b0 : (a1 == (-6)) = false := beq_eq_false_iff_ne.mpr c9
    have c9b1 : (a1 != (-6)) = true := bne_iff_ne.mpr c9
    have HC13 := zA H
    clear H
    go_enter Tryz.func181, Tryz.ntmps181
    go_upto_if 45 with (fail)
    go_cut [45] (fun v45 wc => ∃ (kq : Nat) (x45_12 : Bool), v45 = .bool x45_12 ∧ Aa2 (ratchetref07_abstract.j0 kq a0 a1 x45_12 = some r) ∧ Aa2 (kq ≤ k) ∧ Ab6 w wc)
    case first =>
     have H := HC13.out
     clear HC13
     by_cases c14 : a1 = (-7)
     ·rw [if_pos c14] at H
      have c14b0 : (a1 == (-7)) = true := beq_iff_eq.mpr c14
      have c14b1 : (a1 != (-7)) = false := bne_eq_false_iff_eq.mpr c14
      clear c14
      (first | rw [c14b0] | (simp only [Cd1, Cd2]; rw [c14b0]) | skip)
      have H' := zA H
      clear H
      go_wp2
      go_meet
      case rel => exact ⟨_, ((a1 == (-7))), (by first | rfl | (simp; done) | (simp [*]; done)), H', ⟨by first | omega | exact Nat.le_refl _⟩, by repeat (first | exact Ab6.refl _ | apply Ab6.step)⟩
     ·rw [if_neg c14] at H
      have c14b0 : (a1 == (-7)) = false := beq_eq_false_iff_ne.mpr c14
      have c14b1 : (a1 != (-7)) = true := bne_iff_ne.mpr c14
      (first | rw [c14b0] | (simp only [Cd1, Cd2]; rw [c14b0]) | skip)
      by_cases c15 : a1 = (-8)
      ·rw [if_pos c15] at H
       have c15b0 : (a1 == (-8)) = true := beq_iff_eq.mpr c15
       have c15b1 : (a1 != (-8)) = false := bne_eq_false_iff_eq.mpr c15
       clear c15
       have H' := zA H
       clear H
       go_wp2
       go_meet
       case rel => exact ⟨_, ((a1 == (-8))), (by first | rfl | (simp; done) | (simp [*]; done)), H', ⟨by first | omega | exact Nat.le_refl _⟩, by repeat (first | exact Ab6.refl _ | apply Ab6.step)⟩
      ·rw [if_neg c15] at H
       have c15b0 : (a1 == (-8)) = false := beq_eq_false_iff_ne.mpr c15
       have c15b1 : (a1 != (-8)) = true := bne_iff_ne.mpr c15
       have H' := zA H
       clear H
       go_wp2
       go_meet
       case rel => exact ⟨_, ((a1 == (-9))), (by first | rfl | (simp; done) | (simp [*]; done)), H', ⟨by first | omega | exact Nat.le_refl _⟩, by repeat (first | exact Ab6.refl _ | apply Ab6.step)⟩
    case rest =>
     clear HC13
     try clear c1
     try clear p2
     try clear c3
     try clear c3b0
     try clear c3b1
     try clear c4
     try clear c4b0
     try clear c4b1
     try clear c5
     try clear c5b0
     try clear c5b1
     try clear c6
     try clear c6b0
     try clear c6b1
     try clear c7
     try clear c7b0
     try clear c7b1
     try clear c8
     try clear c8b0
     try clear c8b1
     try clear c9
     try clear c9b0
     try clear c9b1
     try clear c10
     try clear c10b0
     try clear c10b1
     try clear c11
     try clear c11b0
     try clear c11b1
     try clear c12
     try clear c12b0
     try clear c12b1
     try clear c14
     try clear c14b0
     try clear c14b1
     try clear c15
     try clear c15b0
     try clear c15b1
     obtain ⟨kq, x45_12, rfl, HA, HJ12, ⟨mc12, rfl⟩⟩ := hcut
     cases kq with
     | zero => exact absurd HA.out (by simp [ratchetref07_abstract.j0])
     | succ kj12 =>
      have H := HA.out
      clear HA
      simp only [ratchetref07_abstract.j0] at H
      by_cases c16 : x45_12 = true
      ·subst c16
       have H1 : (some (a0 == (-10))) = some r := by rw [if_pos rfl] at H; exact H
       clear H
       have H := H1
       clear H1
       obtain rfl := Option.some.inj H
       go_wp2
       go_ret
       exact ⟨by first | rfl | (simp; done) | (simp [*]; done), by repeat (first | exact Ab6.refl _ | apply Ab6.step)⟩
      ·replace c16 := Bool.eq_false_iff.mpr c16
       subst c16
       have H1 : (if a1 = (-1) then (some (a0 == (-2))) else (if a1 = (-3) then (some (a0 == (-4))) else (if a1 = (-11) then (some (a0 == (-12))) else (some false)))) = some r := by rw [if_neg (show ¬ (false = true) by decide)] at H; exact H
       clear H
       have H := H1
       clear H1
       by_cases c17 : a1 = (-1)
       ·rw [if_pos c17] at H
        have c17b0 : (a1 == (-1)) = true := beq_iff_eq.mpr c17
        have c17b1 : (a1 != (-1)) = false := bne_eq_false_iff_eq.mpr c17
        clear c17
        obtain rfl := Option.some.inj H
        go_wp2
        go_ret
        exact ⟨by first | rfl | (simp; done) | (simp [*]; done), by repeat (first | exact Ab6.refl _ | apply Ab6.step)⟩
       ·rw [if_neg c17] at H
        have c17b0 : (a1 == (-1)) = false := beq_eq_false_iff_ne.mpr c17
        have c17b1 : (a1 != (-1)) = true := bne_iff_ne.mpr c17
        by_cases c18 : a1 = (-3)
        ·rw [if_pos c18] at H
         have c18b0 : (a1 == (-3)) = true := beq_iff_eq.mpr c18
         have c18b1 : (a1 != (-3)) = false := bne_eq_false_iff_eq.mpr c18
         clear c18
         obtain rfl := Option.some.inj H
         go_wp2
         go_ret
         exact ⟨by first | rfl | (simp; done) | (simp [*]; done), by repeat (first | exact Ab6.refl _ | apply Ab6.step)⟩
        ·rw [if_neg c18] at H
         have c18b0 : (a1 == (-3)) = false := beq_eq_false_iff_ne.mpr c18
         have c18b1 : (a1 != (-3)) = true := bne_iff_ne.mpr c18
         by_cases c19 : a1 = (-11)
         ·rw [if_pos c19] at H
          have c19b0 : (a1 == (-11)) = true := beq_iff_eq.mpr c19
          have c19b1 : (a1 != (-11)) = false := bne_eq_false_iff_eq.mpr c19
          clear c19
          obtain rfl := Option.some.inj H
          go_wp2
          go_ret
          exact ⟨by first | rfl | (simp; done) | (simp [*]; done), by repeat (first | exact Ab6.refl _ | apply Ab6.step)⟩
         ·rw [if_neg c19] at H
          have c19b0 : (a1 == (-11)) = false := beq_eq_false_iff_ne.mpr c19
          have c19b1 : (a1 != (-11)) = true := bne_iff_ne.mpr c19
          obtain rfl := Option.some.inj H
          go_wp2
          go_ret
          exact ⟨by first | rfl | (simp; done) | (simp [*]; done), by repeat (first | exact Ab6.refl _ | apply Ab6.step)⟩
end Go.Proofs.YtohlmkcgempdlaaGreatDoor.QD
namespace Go.Proofs.YtohlmkcgempdlaaGreatDoor.Cn
set_option linter.unusedSimpArgs false
set_option maxRecDepth 100000
set_option linter.unusedVariables false
open Go.RowKit Go.Maps Go.Proofs.YtohlmkcgempdlaaGreatDoorW.PrintWords Go.Proofs.YtohlmkcgempdlaaGreatDoorW.PrintLast Go.Proofs.YtohlmkcgempdlaaGreatDoorW.PrintMore Go.Proofs.YtohlmkcgempdlaaGreatDoor.QD
theorem Av4 (A : Option Addr) (c : Nat) (l : List S132) (w : World) (hl : LA w A c l) : Calls Tryz.prog 81 #[.slice A l.length c] w fun e w' => e = .returned (.int .i64 ((flat l).length : Int)) ∧ Below w.heap.size w w' := by
 have hw := hl.w
 have htc := Ab4 l
 rw [Ad1]
 exact (ratchetref05_Count.calls (l.length + 1) A c l _ w hl.C hl.cap (r5count l (by omega) (by omega) _ (Nat.le_refl _))).mono fun e w' ⟨he, hb⟩ => ⟨he, hb.below⟩
theorem Aq3 (a b : Int) (w : World) (a0 : -12 ≤ a) (a1 : a < 0) (b0 : -12 ≤ b) (b1 : b < 0) : Calls Tryz.prog 181 #[.int .i64 a, .int .i64 b] w fun e w' => e = .returned (.bool (absM a b)) ∧ Below w.heap.size w w' := by
 have hf : ratchetref07_abstract.f 1 a b = some (absM a b) := by
  rcases Ao7 b0 (by omega) with rfl | rfl | rfl | rfl | rfl | rfl | rfl | rfl | rfl | rfl | rfl | rfl | rfl
  ·omega
  all_goals rcases Ao7 a0 (by omega) with rfl | rfl | rfl | rfl | rfl | rfl | rfl | rfl | rfl | rfl | rfl | rfl | rfl
  all_goals first
   | (exact absurd a1 (by decide))
   | rfl
   | decide
 exact (ratchetref07_abstract.calls 1 a b _ w hf).mono fun e w' ⟨he, hb⟩ => ⟨he, hb.below⟩
theorem Bt4 (A : Option Addr) (c : Nat) (l : List S132) (x y : Int) (w : World) (hl : LA w A c l) : Calls Tryz.prog 190 #[.slice A l.length c, .int .i64 x, .int .i64 y] w fun e w' => e = .returned (.bool (oneM l l x y).1) ∧ Below w.heap.size w w' := by
 obtain ⟨b, k, h⟩ : ∃ b k, oneM l l x y = (b, k) := ⟨_, _, rfl⟩
 have K := Bo5 A c l x y w hl b k h
 rw [h]
 clear hl h
 go_enter Tryz.func190, Tryz.ntmps190
 go_wp2_with fail
 refine K.mono ?_
 rintro e w1 ⟨rfl, hb⟩
 have B1 := zA hb
 clear hb K
 go_wp2_with fail
 go_ret
 exact ⟨rfl, B1.out⟩
theorem Ax1 (A : Option Addr) (c : Nat) (l : List S132) (h : Int) (w : World) (hl : LA w A c l) : Calls Tryz.prog 171 #[.slice A l.length c, .int .i64 h] w fun e w' => e = .returned (.bool (isM l h)) ∧ Below w.heap.size w w' := by
 have K := Av4 A c l w hl
 clear hl
 by_cases g : -12 ≤ h
 ·go_enter Tryz.func171, Tryz.ntmps171
  go_wp2_with fail
  refine K.mono ?_
  rintro e w1 ⟨rfl, hb⟩
  have B1 := zA hb
  clear hb K
  go_wp2_with fail
  go_ret
  exact ⟨by simp [isM, g], B1.out⟩
 ·clear K
  go_enter Tryz.func171, Tryz.ntmps171
  go_wp2_with fail
  go_ret
  exact ⟨by simp [isM]; omega, Below.refl _ _⟩
theorem Bo3 (A : Option Addr) (c : Nat) (l : List S132) (w : World) (hl : LA w A c l) (hc : Clo l) : Calls Tryz.prog 170 #[.slice A l.length c] w fun e w' => e = .returned (.bool true) ∧ Below w.heap.size w w' := by
 have K := At0 A c l w hl
 have HC := zA hc
 clear hl hc
 go_enter Tryz.func170, Tryz.ntmps170
 go_wp2_with fail
 refine K.mono ?_
 rintro e w1 ⟨⟨n, er, rfl, ho⟩, hb⟩
 obtain ⟨rfl, rfl⟩ := ho.yes HC.out
 have B1 := zA hb
 clear hb K ho
 go_wp2_with fail
 go_ret
 exact ⟨rfl, B1.out⟩
theorem Bc5 {P : Program} {fn : Func} {p u v x : Tmp} {ty : TypeId} (h : fn.results = #[.cell p ty, .tmp u, .tmp v, .tmp x]) (tmps : Array Value) (w : World) (g : Nat) (cs : Array Value)
  (hp : tmps.getD p undef = .pointer (some ⟨g, 0, none⟩)) (hl : (loadVar ty ⟨g, 0, none⟩).run P w = .ok (.agg cs) w) :
  (results fn tmps).run P w = .ok (.tuple #[.agg cs, tmps.getD u undef, tmps.getD v undef, tmps.getD x undef]) w := by
 have hp' : tmps[p]?.getD undef = .pointer (some ⟨g, 0, none⟩) := by simpa using hp
 simp [results, h, hp', asAddr, hl, Sem.run_bind, Result.andThen]
def TyIn (w : World) (s : S123) (A1 : Option Addr) (c1 : Nat) (A3 : Option Addr) (c3 : Nat) (A4 : Option Addr) (c4 : Nat) (A5 : Option Addr) (c5 : Nat) : Prop :=
 k123.K w s [.bool s.f0, .slice A1 s.f1.length c1, .int .i64 s.f2.f0, .slice A3 s.f2.f1.length c3, .slice A4 s.f2.f2.length c4, .slice A5 s.f2.f3.length c5]
set_option maxHeartbeats 8000000 in
theorem Bi3 (A : Option Addr) (c : Nat) (l : List S132) (n : Int) (w : World) (hl : LA w A c l) (n0 : 0 ≤ n) (n1 : n < ((flat l).length : Int)) :
  Calls Tryz.prog 59 #[.slice A l.length c, .int .i64 n] w fun e w' => ∃ A1 c1 A3 c3 A4 c4 A5 c5 i p, e = .returned (.tuple #[.agg #[.bool (tyAt l n).f0, .slice A1 (tyAt l n).f1.length c1, .int .i64 (tyAt l n).f2.f0, .slice A3 (tyAt l n).f2.f1.length c3, .slice A4 (tyAt l n).f2.f2.length c4, .slice A5 (tyAt l n).f2.f3.length c5], .int .i64 i, .int .i64 p, .bool true]) ∧ TyIn w (tyAt l n) A1 c1 A3 c3 A4 c4 A5 c5 ∧ Below w.heap.size w w' := by
 have HL := zA hl
 have hw := hl.w
 have htc := Ab4 l
 have hfl := Ad1 l
 have N0 := zA n0
 have N1 := zA n1
 have hll : l.length ≤ 1048576 := by omega
 have HT : Aa2 (Aa8 l ≤ 1048576) := ⟨by omega⟩
 have hb0 : Below w.heap.size w (w.alloc (.cells #[.bool false, .slice none 0 0, .int .i64 0, .slice none 0 0, .slice none 0 0, .slice none 0 0] 123)) := bz_
 have HB := zA hb0
 clear hl hw htc hb0
 go_enter Tryz.func59, Tryz.ntmps59
 go_wp2_with fail
 clear n0 n1
 go_loopw [1, 8] (fun v i W => ∃ (j : Nat) (x : Int), i = .int .i64 j ∧ j ≤ l.length ∧ v = .int .i64 x ∧ 0 ≤ x ∧ n = (Aa8 (l.take j) : Int) + x ∧ W = w.alloc (.cells #[.bool false, .slice none 0 0, .int .i64 0, .slice none 0 0, .slice none 0 0, .slice none 0 0] 123)) (fun _ i _ => l.length - (intOf i).toNat)
 case atStart => exact ⟨0, n, rfl, Nat.zero_le _, rfl, N0.out, by simp [Aa8], rfl⟩
 case round =>
  obtain ⟨j, x, rfl, hj, rfl, x0, hx, rfl⟩ := hrel
  have HX := zA hx
  clear hx
  have j0 : (0 : Int) ≤ (j : Int) := Int.natCast_nonneg j
  by_cases hlj : j < l.length
  ·obtain ⟨ad, Ar, cr, rfl, d0, d1, hrc, hrC⟩ := Aq1 HL.out.C (j : Int) j0 (by omega)
   have HRJ := zA (Ba2 l j hlj)
   simp only [Int.toNat_natCast] at d0 d1
   obtain ⟨r, hre⟩ : ∃ r, r = Ad5 l (j : Int) := ⟨_, rfl⟩
   rw [← hre] at d0 d1 hrc hrC HRJ
   clear hre
   replace d0 := (HB.out.cell (World.block_lt_of_cell? w _ d0)).trans d0
   have jl : (j : Int) < (l.length : Int) := by omega
   by_cases hxr : x < (r.f0.length : Int)
   ·obtain ⟨ae, A1, c1, A3, c3, A4, c4, A5, c5, rfl, e0, e1, e2, e3, e4, e5, m1, r1, m3, r3, m4, r4, m5, r5⟩ := An8 hrC x x0 hxr
    have hty : Ac2 r.f0 x = tyAt l n := by
     have h1 := By9 HRJ.out (o := x.toNat) (by omega)
     have h2 : n.toNat = Aa8 (l.take j) + x.toNat := by have := HX.out; omega
     unfold tyAt Ac2
     rw [List.getD_eq_getElem?_getD, List.getD_eq_getElem?_getD, h2, h1]
    rw [hty] at e0 e1 e2 e3 e4 e5 m1 r1 m3 r3 m4 r4 m5 r5
    have K := zA (show TyIn w (tyAt l n) A1 c1 A3 c3 A4 c4 A5 c5 from Cj2 w (tyAt l n) m1 r1 m3 r3 m4 r4 m5 r5)
    obtain ⟨s, hs⟩ : ∃ s, s = tyAt l n := ⟨_, rfl⟩
    rw [← hs] at e0 e1 e2 e3 e4 e5 K
    have HS := zA hs
    replace e0 := (HB.out.cell (World.block_lt_of_cell? w _ e0)).trans e0
    replace e1 := (HB.out.cell (World.block_lt_of_cell? w _ e1)).trans e1
    replace e2 := (HB.out.cell (World.block_lt_of_cell? w _ e2)).trans e2
    replace e3 := (HB.out.cell (World.block_lt_of_cell? w _ e3)).trans e3
    replace e4 := (HB.out.cell (World.block_lt_of_cell? w _ e4)).trans e4
    replace e5 := (HB.out.cell (World.block_lt_of_cell? w _ e5)).trans e5
    clear m1 r1 m3 r3 m4 r4 m5 r5 hs hty hrc hrC d1
    go_wp2_with fail
    refine bodyPost_ret (Bc5 rfl _ _ w.heap.size #[.bool s.f0, .slice A1 s.f1.length c1, .int .i64 s.f2.f0, .slice A3 s.f2.f1.length c3, .slice A4 s.f2.f2.length c4, .slice A5 s.f2.f3.length c5] rfl (run_loadVar_row _ _ 123 123 _ (0, 0) _ (Aa6 w _) Tryz.underlying123 rfl (by kernel_rfl))) rfl ?_
    rw [← HS.out]
    exact ⟨A1, c1, A3, c3, A4, c4, A5, c5, (j : Int), x, rfl, K.out, bz_⟩
   ·have hwx : wrap64 (x - (r.f0.length : Int)) = x - r.f0.length := by
     have h1 := Ab7 l j r HRJ.out
     have h2 := HX.out
     have h3 := N1.out
     have h4 := HT.out
     unfold wrap64; omega
    clear d1 hrc hrC
    go_wp2_with fail
    go_roundw
    case rel => exact ⟨j + 1, x - r.f0.length, by go_num, by omega, by rw [hwx], by omega, by rw [Ad8 l j r HRJ.out]; have := HX.out; push_cast; omega, trivial⟩
    case measure => simp [intOf]; omega
  ·exfalso
   obtain rfl : j = l.length := by omega
   have h1 := HX.out
   have h2 := N1.out
   rw [List.take_length] at h1
   omega
theorem TyIn.open {w : World} {s : S123} {A1 : Option Addr} {c1 : Nat} {A3 : Option Addr} {c3 : Nat} {A4 : Option Addr} {c4 : Nat} {A5 : Option Addr} {c5 : Nat} (h : TyIn w s A1 c1 A3 c3 A4 c4 A5 c5) :
  (s.f1.length ≤ c1 ∧ (Kd.int .i64).C w A1 s.f1.length s.f1) ∧ (s.f2.f1.length ≤ c3 ∧ k39.C w A3 s.f2.f1.length s.f2.f1) ∧ (s.f2.f2.length ≤ c4 ∧ k39.C w A4 s.f2.f2.length s.f2.f2) ∧ (s.f2.f3.length ≤ c5 ∧ k172.C w A5 s.f2.f3.length s.f2.f3) := by
 obtain ⟨B1, d1, B3, d3, B4, d4, B5, d5, e, l1, g1, l3, g3, l4, g4, l5, g5⟩ := Am4 h
 simp only [List.cons.injEq, Value.slice.injEq, and_true, true_and] at e
 obtain ⟨⟨rfl, rfl⟩, ⟨rfl, rfl⟩, ⟨rfl, rfl⟩, rfl, rfl⟩ := e
 exact ⟨⟨l1, g1⟩, ⟨l3, g3⟩, ⟨l4, g4⟩, l5, g5⟩
def Cl9 : List Int → Value
 | [] => .tuple #[.int .i64 0, .bool false]
 | y :: _ => .tuple #[.int .i64 y, .bool true]
theorem Bl0 (A : Option Addr) (c : Nat) (l : List S132) (n : Int) (w : World) (hl : LA w A c l) (n0 : 0 ≤ n) (n1 : n < ((flat l).length : Int)) :
  Calls Tryz.prog 191 #[.slice A l.length c, .int .i64 n] w fun e w' => e = .returned (Cl9 (tyAt l n).f1) ∧ Below w.heap.size w w' := by
 have K := Bi3 A c l n w hl n0 n1
 clear hl
 go_enter Tryz.func191, Tryz.ntmps191
 go_wp2_with fail
 refine K.mono ?_
 rintro e w1 ⟨A1, c1, A3, c3, A4, c4, A5, c5, i, p, rfl, hty, hb⟩
 have B1 := zA hb
 obtain ⟨⟨m1, r1⟩, _⟩ := hty.open
 obtain ⟨s, hs⟩ : ∃ s, s = tyAt l n := ⟨_, rfl⟩
 rw [← hs] at r1 m1 ⊢
 have HS := zA hs
 have B2 : Aa2 (Below w.heap.size w (w1.alloc (.cells #[.bool s.f0, .slice A1 s.f1.length c1, .int .i64 s.f2.f0, .slice A3 s.f2.f1.length c3, .slice A4 s.f2.f2.length c4, .slice A5 s.f2.f3.length c5] 123))) := ⟨hb.alloc hb.size _⟩
 clear hty hs K
 rcases hz : s.f1 with _ | ⟨y, t⟩
 ·rw [hz] at B2
  go_wp2_with fail
  go_ret2
  exact ⟨by first | rfl | (rw [hz]; rfl) | (rw [← HS.out, hz]; rfl), B2.out⟩
 ·rw [hz] at r1 B2
  obtain ⟨ai, z, eA, hq, hcz⟩ := Au7 r1 0 (by simp)
  subst eA
  obtain rfl : y = z := by simpa using hq
  have hcz' : (w1.alloc (.cells #[.bool s.f0, .slice (some ai) (y :: t).length c1, .int .i64 s.f2.f0, .slice A3 s.f2.f1.length c3, .slice A4 s.f2.f2.length c4, .slice A5 s.f2.f3.length c5] 123)).cell? ai = some (.int .i64 y) := by
   have e_ : ai.add 0 = ai := (by simp [Addr.add])
   rw [e_] at hcz
   exact (B2.out.cell (World.block_lt_of_cell? w _ hcz)).trans hcz
  have h0l : (0 : Int) < ((y :: t).length : Int) := by simp
  have hbl : ai.block < w1.heap.size := by
   have e_ : ai.add 0 = ai := (by simp [Addr.add])
   rw [e_] at hcz
   have := World.block_lt_of_cell? w _ hcz
   have := B1.out.size
   omega
  have hcw : w1.cell? ai = some (.int .i64 y) := by
   have e_ : ai.add 0 = ai := (by simp [Addr.add])
   rw [e_] at hcz
   exact (B1.out.cell (World.block_lt_of_cell? w _ hcz)).trans hcz
  clear hcz hq r1
  go_wp2_with fail
  go_ret2
  exact ⟨by first | rfl | (rw [hz]; rfl) | (rw [← HS.out, hz]; rfl), B2.out⟩
theorem Ay4 (A : Option Addr) (c : Nat) (l : List S132) (n : Int) (w : World) (hl : LA w A c l) (n0 : 0 ≤ n) (n1 : n < ((flat l).length : Int)) :
  Calls Tryz.prog 183 #[.slice A l.length c, .int .i64 n] w fun e w' => e = .returned (.int .i64 (Ae9 l n)) ∧ Below w.heap.size w w' := by
 have K := Bi3 A c l n w hl n0 n1
 clear hl
 go_enter Tryz.func183, Tryz.ntmps183
 go_wp2_with fail
 refine K.mono ?_
 rintro e w1 ⟨A1, c1, A3, c3, A4, c4, A5, c5, i, p, rfl, hty, hb⟩
 obtain ⟨s, hs⟩ : ∃ s, s = tyAt l n := ⟨_, rfl⟩
 rw [← hs]
 have EK : Aa2 (Ae9 l n = Bl6 s.f2.f0) := ⟨by rw [hs]; rfl⟩
 have B2 : Aa2 (Below w.heap.size w (w1.alloc (.cells #[.bool s.f0, .slice A1 s.f1.length c1, .int .i64 s.f2.f0, .slice A3 s.f2.f1.length c3, .slice A4 s.f2.f2.length c4, .slice A5 s.f2.f3.length c5] 123))) := ⟨hb.alloc hb.size _⟩
 clear hty K hs hb
 by_cases g1 : s.f2.f0 = 1
 ·rw [g1] at B2 EK
  go_wp2_with fail
  go_ret
  exact ⟨by rw [EK.out]; rfl, B2.out⟩
 ·by_cases g2 : s.f2.f0 = 2
  ·rw [g2] at B2 EK
   go_wp2_with fail
   go_ret
   exact ⟨by rw [EK.out]; rfl, B2.out⟩
  ·go_wp2_with fail
   go_ret
   exact ⟨by rw [EK.out]; simp [Bl6, g1, g2], B2.out⟩
noncomputable def Bn6 (l : List S132) (a b : Int) : Bool := (Ao5 l ((flat l).length + 1) a).any fun x => (oneM l l (x.toNat : Int) (b.toNat : Int)).1
theorem LA.flat_le {w : World} {A : Option Addr} {c : Nat} {l : List S132} (h : LA w A c l) : (flat l).length ≤ 1048576 := by
 have hw := h.w
 have htc := Ab4 l
 rw [Ad1]
 omega
set_option maxHeartbeats 8000000 in
theorem Bo1 (A : Option Addr) (c : Nat) (l : List S132) (a b : Int) (w : World) (hl : LA w A c l) (hc : Clo l) (a0 : 0 ≤ a) (a1 : a < ((flat l).length : Int)) (b0 : 0 ≤ b) :
  Calls Tryz.prog 182 #[.slice A l.length c, .int .i64 a, .int .i64 b] w fun e w' => e = .returned (.bool (Bn6 l a b)) ∧ Below w.heap.size w w' := by
 have HL := zA hl
 have HC := zA hc
 have hll := hl.flat_le
 obtain ⟨m, hm⟩ : ∃ m, m = (flat l).length := ⟨_, rfl⟩
 have HM := zA hm
 rw [← hm] at a1 hll
 have eb : ((b.toNat : Nat) : Int) = b := by omega
 have EB := zA eb
 have A01 := zA (And.intro a0 a1)
 clear hl hc hm eb a0 a1
 go_enter Tryz.func182, Tryz.ntmps182
 go_wp2_with fail
 go_loopw [1, 7] (fun v i W => ∃ (k : Nat) (x : Int) (p : List Int), i = .int .i64 k ∧ k ≤ m + 1 ∧ v = .int .i64 x ∧ (0 ≤ x ∧ x < (m : Int)) ∧ p ++ Ao5 l (m + 1 - k) x = Ao5 l (m + 1) a ∧ (∀ y ∈ p, (oneM l l (y.toNat : Int) b).1 = false) ∧ Below w.heap.size w W) (fun _ i _ => m + 1 - (intOf i).toNat)
 case atStart => exact ⟨0, a, [], rfl, Nat.zero_le _, rfl, A01.out, rfl, (fun y hy => by cases hy), Below.refl _ _⟩
 case round =>
  obtain ⟨k, x, p, rfl, hk, rfl, ⟨x0, x1⟩, hch, hp, hbw⟩ := hrel
  have HCH := zA hch
  have HP := zA hp
  have W0 := zA hbw
  have KC := Av4 A c l wr (HL.out.below hbw)
  rw [← HM.out] at KC
  clear hch hp hbw
  have k0 : (0 : Int) ≤ (k : Int) := Int.natCast_nonneg k
  have hwk : wrap64 ((k : Int) + 1) = (k : Int) + 1 := by unfold wrap64; omega
  by_cases hlk : k < m + 1
  ·have kl : (k : Int) ≤ (m : Int) := by omega
   go_wp2_with fail
   refine KC.mono ?_
   rintro e w1 ⟨rfl, hb⟩
   have W1 := zA (W0.out.trans (hb.mono W0.out.size))
   clear hb KC W0
   go_wp2_with fail
   refine (Bt4 A c l x b w1 (HL.out.below W1.out)).mono ?_
   rintro e w2 ⟨rfl, hb⟩
   have W2 := zA (W1.out.trans (hb.mono W1.out.size))
   clear hb W1
   have hk1 : m + 1 - k = (m - k) + 1 := by omega
   have hch := HCH.out
   rw [hk1] at hch
   have ex : ((x.toNat : Nat) : Int) = x := by omega
   obtain ⟨t, ht⟩ : ∃ t, Ao5 l ((m - k) + 1) x = x :: t := ⟨_, rfl⟩
   cases hone : (oneM l l x b).1 with
   | true =>
    have RT : Aa2 (Bn6 l a b = true) := ⟨by
     unfold Bn6
     rw [← HM.out, ← hch, ht, EB.out, List.any_append, List.any_cons]
     rw [ex, hone]
     simp only [Bool.true_or, Bool.or_true]⟩
    clear hch ht
    go_wp2_with fail
    go_ret
    exact ⟨by rw [RT.out]; rfl, W2.out⟩
   | false =>
    have KA := Bl0 A c l x w2 (HL.out.below W2.out) x0 (by rw [← HM.out]; exact x1)
    have HO := zA hone
    clear hone
    rcases hz : (tyAt l x).f1 with _ | ⟨y, t'⟩
    ·rw [hz] at KA
     rw [Br7 _ hz] at hch
     have RT : Aa2 (Bn6 l a b = false) := ⟨by
      unfold Bn6
      rw [← HM.out, ← hch, EB.out, List.any_append]
      simp only [List.any_cons, List.any_nil, ex, HO.out, Bool.or_false]
      rw [List.any_eq_false]
      intro z hz'
      rw [HP.out z hz']
      simp⟩
     clear hch ht hz
     dsimp only [Cl9] at KA
     go_wp2_with fail
     refine KA.mono ?_
     rintro e w3 ⟨rfl, hb⟩
     have W3 := zA (W2.out.trans (hb.mono W2.out.size))
     clear hb
     go_wp2_with fail
     go_ret
     exact ⟨by rw [RT.out]; rfl, W3.out⟩
    ·rw [hz] at KA
     rw [Bz3 _ hz] at hch
     have HCE := zA hch
     have HY := zA (Bb8 HC.out x0 (by rw [← HM.out]; exact x1) y (by rw [hz]; simp))
     rw [← HM.out] at HY
     clear hch ht hz
     dsimp only [Cl9] at KA
     go_wp2_with fail
     refine KA.mono ?_
     rintro e w3 ⟨rfl, hb⟩
     have W3 := zA (W2.out.trans (hb.mono W2.out.size))
     clear hb
     go_wp2_with fail
     go_roundw
     case rel => exact ⟨k + 1, y, p ++ [x], by go_num, by omega, rfl, HY.out, by have e_ : m + 1 - (k + 1) = m - k := (by omega); rw [e_, List.append_assoc]; exact HCE.out, fun z hz => (List.mem_append.1 hz).elim (fun h => HP.out z h) (fun h => by rw [List.mem_singleton.1 h, ex]; exact HO.out), W3.out⟩
     case measure => simp [intOf]; omega
  ·obtain rfl : k = m + 1 := by omega
   have hch := HCH.out
   rw [Nat.sub_self] at hch
   have RT : Aa2 (Bn6 l a b = false) := ⟨by
    unfold Bn6
    rw [← HM.out, ← hch, EB.out]
    simp only [Ao5, List.append_nil]
    rw [List.any_eq_false]
    intro z hz'
    rw [HP.out z hz']
    simp⟩
   clear hch hk hlk
   have kl : ¬ (((m + 1 : Nat) : Int) ≤ (m : Int)) := by omega
   go_wp2_with fail
   refine KC.mono ?_
   rintro e w1 ⟨rfl, hb⟩
   have W1 := zA (W0.out.trans (hb.mono W0.out.size))
   clear hb KC W0
   go_wp2_with fail
   go_ret
   exact ⟨by rw [RT.out]; rfl, W1.out⟩
theorem heapM_eq {l : List S132} {a b : Int} (ha : isM l a = true) (hb : isM l b = true) : Ai7 l a b = (if a < 0 then if b < 0 then absM a b else decide (a = -10) && decide (Ae9 l b ≠ -1) || decide (a = -2) && decide (Ae9 l b = -1) else if b < 0 then absM (Ae9 l a) b else Bn6 l a b) := by
 unfold Ai7
 rw [if_pos (by rw [ha, hb]; rfl)]
 rfl
set_option maxHeartbeats 8000000 in
theorem Bo2 (A : Option Addr) (c : Nat) (l : List S132) (a b : Int) (w : World) (hl : LA w A c l) (hc : Clo l) (ha : isM l a = true) (hb : isM l b = true) :
  Calls Tryz.prog 172 #[.slice A l.length c, .int .i64 a, .int .i64 b] w fun e w' => e = .returned (.bool (Ai7 l a b)) ∧ Below w.heap.size w w' := by
 obtain ⟨ha0, ha1⟩ := As6 ha
 obtain ⟨hb0, hb1⟩ := As6 hb
 have EM := zA (heapM_eq ha hb)
 clear ha hb
 by_cases na : a < 0
 ·by_cases nb : b < 0
  ·have K := Aq3 a b w ha0 na hb0 nb
   rw [EM.out, if_pos na, if_pos nb]
   clear hl hc
   go_enter Tryz.func172, Tryz.ntmps172
   go_wp2_with fail
   refine K.mono ?_
   rintro e w1 ⟨rfl, hb⟩
   have B1 := zA hb
   clear hb K
   go_wp2_with fail
   go_ret
   exact ⟨rfl, B1.out⟩
  ·have K := Ay4 A c l b w hl (by omega) hb1
   have hk := Ba6 (tyAt l b).f2.f0
   obtain ⟨kb, hkb⟩ : ∃ kb, kb = Ae9 l b := ⟨_, rfl⟩
   rw [EM.out, if_pos na, if_neg nb]
   rw [← hkb] at K ⊢
   replace hk : kb = -1 ∨ kb = -8 ∨ kb = -9 := by rw [hkb]; exact hk
   clear hl hc hkb
   by_cases a10 : a = -10
   ·subst a10
    rcases hk with rfl | rfl | rfl
    all_goals
     go_enter Tryz.func172, Tryz.ntmps172
     go_wp2_with fail
     refine K.mono ?_
     rintro e w1 ⟨rfl, hb⟩
     have B1 := zA hb
     clear hb K
     go_wp2_with fail
     go_ret
     exact ⟨rfl, B1.out⟩
   ·have e10 : (a == -10) = false := by simp [a10]
    by_cases a2 : a = -2
    ·subst a2
     rcases hk with rfl | rfl | rfl
     all_goals
      go_enter Tryz.func172, Tryz.ntmps172
      go_wp2_with fail
      refine K.mono ?_
      rintro e w1 ⟨rfl, hb⟩
      have B1 := zA hb
      clear hb K
      go_wp2_with fail
      go_ret
      exact ⟨rfl, B1.out⟩
    ·have e2 : (a == -2) = false := by simp [a2]
     have EF : (decide (a = -10) && decide (kb ≠ -1) || decide (a = -2) && decide (kb = -1)) = false := by simp [a10, a2]
     rw [EF]
     clear K
     go_enter Tryz.func172, Tryz.ntmps172
     go_wp2_with fail
     go_ret
     exact ⟨rfl, Below.refl _ _⟩
 ·by_cases nb : b < 0
  ·have K := Ay4 A c l a w hl (by omega) ha1
   have hk := Ba6 (tyAt l a).f2.f0
   have hk' : -12 ≤ Ae9 l a ∧ Ae9 l a < 0 := by
    have hk2 : Ae9 l a = -1 ∨ Ae9 l a = -8 ∨ Ae9 l a = -9 := hk
    omega
   have HK := zA hk'
   rw [EM.out, if_neg na, if_pos nb]
   clear hl hc hk hk'
   go_enter Tryz.func172, Tryz.ntmps172
   go_wp2_with fail
   refine K.mono ?_
   rintro e w1 ⟨rfl, hb⟩
   have B1 := zA hb
   clear hb K
   go_wp2_with fail
   refine (Aq3 (Ae9 l a) b w1 HK.out.1 HK.out.2 hb0 nb).mono ?_
   rintro e w2 ⟨rfl, hb⟩
   have B2 := zA (B1.out.trans (hb.mono B1.out.size))
   clear hb
   go_wp2_with fail
   go_ret
   exact ⟨rfl, B2.out⟩
  ·have K := Bo1 A c l a b w hl hc (by omega) ha1 (by omega)
   rw [EM.out, if_neg na, if_neg nb]
   clear hl hc
   go_enter Tryz.func172, Tryz.ntmps172
   go_wp2_with fail
   refine K.mono ?_
   rintro e w1 ⟨rfl, hb⟩
   have B1 := zA hb
   clear hb K
   go_wp2_with fail
   go_ret
   exact ⟨rfl, B1.out⟩
theorem Bo4 (A : Option Addr) (c : Nat) (l : List S132) (a b : Int) (w : World) (hl : LA w A c l) (hc : Clo l) :
  Calls Tryz.prog 154 #[.slice A l.length c, .int .i64 a, .int .i64 b] w fun e w' => e = .returned (.bool (Ai7 l a b)) ∧ Below w.heap.size w w' := by
 have HL := zA hl
 have HC := zA hc
 have K := Bo3 A c l w hl hc
 clear hl hc
 cases ha : isM l a with
 | false =>
  have EM : Aa2 (Ai7 l a b = false) := ⟨Bb1 (fun h => by rw [ha] at h; cases h.1)⟩
  go_enter Tryz.func154, Tryz.ntmps154
  go_wp2_with fail
  refine K.mono ?_
  rintro e w1 ⟨rfl, hb⟩
  have B1 := zA hb
  clear hb K
  go_wp2_with fail
  have K2 := Ax1 A c l a w1 (HL.out.below B1.out)
  rw [ha] at K2
  refine K2.mono ?_
  rintro e w2 ⟨rfl, hb⟩
  have B2 := zA (B1.out.trans (hb.mono B1.out.size))
  clear hb K2
  go_wp2_with fail
  go_ret
  exact ⟨by rw [EM.out]; rfl, B2.out⟩
 | true =>
  go_enter Tryz.func154, Tryz.ntmps154
  go_wp2_with fail
  refine K.mono ?_
  rintro e w1 ⟨rfl, hb⟩
  have B1 := zA hb
  clear hb K
  go_wp2_with fail
  have K2 := Ax1 A c l a w1 (HL.out.below B1.out)
  rw [ha] at K2
  refine K2.mono ?_
  rintro e w2 ⟨rfl, hb⟩
  have B2 := zA (B1.out.trans (hb.mono B1.out.size))
  clear hb K2
  go_wp2_with fail
  have K3 := Ax1 A c l b w2 (HL.out.below B2.out)
  cases hb' : isM l b with
  | false =>
   have EM : Aa2 (Ai7 l a b = false) := ⟨Bb1 (fun h => by rw [hb'] at h; cases h.2)⟩
   rw [hb'] at K3
   refine K3.mono ?_
   rintro e w3 ⟨rfl, hb⟩
   have B3 := zA (B2.out.trans (hb.mono B2.out.size))
   clear hb K3
   go_wp2_with fail
   go_ret
   exact ⟨by rw [EM.out]; rfl, B3.out⟩
  | true =>
   rw [hb'] at K3
   refine K3.mono ?_
   rintro e w3 ⟨rfl, hb⟩
   have B3 := zA (B2.out.trans (hb.mono B2.out.size))
   clear hb K3
   go_wp2_with fail
   refine (Bo2 A c l a b w3 (HL.out.below B3.out) HC.out ha hb').mono ?_
   rintro e w4 ⟨rfl, hb⟩
   have B4 := zA (B3.out.trans (hb.mono B3.out.size))
   clear hb
   go_wp2_with fail
   go_ret
   exact ⟨rfl, B4.out⟩
noncomputable def valM (l : List S132) (a b : S39) : Bool := decide (a.f0 = b.f0) && (decide (1 ≤ a.f0) && decide (a.f0 ≤ 7)) && (decide (a.f0 ≠ 5) || (Ai7 l a.f2 b.f2 && (!a.f1 || b.f1)))
noncomputable def Az5 (l : List S132) (a b : List S39) : Bool := decide (a.length = b.length) && (a.zip b).all fun p => valM l p.1 p.2
set_option maxHeartbeats 4000000 in
theorem Bt5 (A : Option Addr) (c : Nat) (l : List S132) (a b : S39) (w : World) (hl : LA w A c l) (hc : Clo l) :
  Calls Tryz.prog 133 #[.slice A l.length c, .agg #[.int .i64 a.f0, .bool a.f1, .int .i64 a.f2], .agg #[.int .i64 b.f0, .bool b.f1, .int .i64 b.f2]] w fun e w' => e = .returned (.bool (valM l a b)) ∧ Below w.heap.size w w' := by
 obtain ⟨x0, x1, x2⟩ := a
 obtain ⟨y0, y1, y2⟩ := b
 dsimp only
 have ba : Below w.heap.size w ((w.alloc (.cells #[.int .i64 x0, .bool x1, .int .i64 x2] 39)).alloc (.cells #[.int .i64 y0, .bool y1, .int .i64 y2] 39)) := (bz_).alloc (by simp) _
 have BA := zA ba
 have K := Bo4 A c l x2 y2 _ (hl.below ba) hc
 clear hl hc ba
 by_cases h1 : x0 = y0
 ·subst h1
  by_cases h2 : 1 ≤ x0
  ·by_cases h3 : x0 ≤ 7
   ·by_cases h4 : x0 = 5
    ·subst h4
     obtain ⟨h, hh⟩ : ∃ h, h = Ai7 l x2 y2 := ⟨_, rfl⟩
     have EM : Aa2 (valM l ⟨5, x1, x2⟩ ⟨5, y1, y2⟩ = (h && (!x1 || y1))) := ⟨by rw [hh]; simp [valM]⟩
     rw [← hh] at K
     clear h2 h3 hh
     go_enter Tryz.func133, Tryz.ntmps133
     go_wp2_with fail
     refine K.mono ?_
     rintro e w1 ⟨rfl, hb⟩
     have B1 : Aa2 (Below w.heap.size w w1) := ⟨BA.out.trans (hb.mono BA.out.size)⟩
     have q0 := Aa3 (Aa5 (Aa6 w (.cells #[.int .i64 5, .bool x1, .int .i64 x2] 39)) (.cells #[.int .i64 5, .bool y1, .int .i64 y2] 39)) hb
     have q1 : w1.heap[w.heap.size + 1]? = some (.cells #[.int .i64 5, .bool y1, .int .i64 y2] 39 (0, 0)) := by have h_ := Aa3 (Aa6 (w.alloc (.cells #[.int .i64 5, .bool x1, .int .i64 x2] 39)) (.cells #[.int .i64 5, .bool y1, .int .i64 y2] 39)) hb; rw [World.size_alloc] at h_; exact h_
     have z0 : w1.cell? ⟨w.heap.size, 1, none⟩ = some (.bool x1) := (Aa0 q0 1).trans rfl
     have z1 : w1.cell? ⟨w.heap.size + 1, 1, none⟩ = some (.bool y1) := (Aa0 q1 1).trans rfl
     clear hb K q0 q1
     cases h <;> cases x1 <;>
      (go_wp2_with fail
       go_ret
       exact ⟨by rw [EM.out]; rfl, B1.out⟩)
    ·have EM : Aa2 (valM l ⟨x0, x1, x2⟩ ⟨x0, y1, y2⟩ = true) := ⟨by simp [valM, h2, h3, h4]⟩
     clear K
     have hlt : ¬ x0 < 1 := by omega
     have hgt : ¬ 7 < x0 := by omega
     go_enter Tryz.func133, Tryz.ntmps133
     go_wp2_with fail
     go_ret
     exact ⟨by rw [EM.out]; rfl, BA.out⟩
   ·have EM : Aa2 (valM l ⟨x0, x1, x2⟩ ⟨x0, y1, y2⟩ = false) := ⟨by simp [valM, h2, h3]⟩
    clear K
    have hlt : ¬ x0 < 1 := by omega
    have hgt : 7 < x0 := by omega
    go_enter Tryz.func133, Tryz.ntmps133
    go_wp2_with fail
    go_ret
    exact ⟨by rw [EM.out]; rfl, BA.out⟩
  ·have EM : Aa2 (valM l ⟨x0, x1, x2⟩ ⟨x0, y1, y2⟩ = false) := ⟨by simp [valM, h2]⟩
   clear K
   have hlt : x0 < 1 := by omega
   go_enter Tryz.func133, Tryz.ntmps133
   go_wp2_with fail
   go_ret
   exact ⟨by rw [EM.out]; rfl, BA.out⟩
 ·have EM : Aa2 (valM l ⟨x0, x1, x2⟩ ⟨y0, y1, y2⟩ = false) := ⟨by simp [valM, h1]⟩
  have e1 : (x0 != y0) = true := by simp [h1]
  clear K
  go_enter Tryz.func133, Tryz.ntmps133
  go_wp2_with fail
  go_ret
  exact ⟨by rw [EM.out]; rfl, BA.out⟩
theorem Bx6 {α β : Type} {f : α × β → Bool} {us : List α} {vs : List β} {k : Nat} {x : α} {y : β} (hx : us[k]? = some x) (hy : vs[k]? = some y) : ((us.zip vs).take (k + 1)).all f = (((us.zip vs).take k).all f && f (x, y)) := by
 have : (us.zip vs)[k]? = some (x, y) := by exact List.getElem?_zip_eq_some.2 ⟨hx, hy⟩
 rw [List.take_add_one, this, List.all_append]
 simp
theorem zip_stop {α β : Type} {f : α × β → Bool} {us : List α} {vs : List β} {k : Nat} {x : α} {y : β} (hx : us[k]? = some x) (hy : vs[k]? = some y) (h : f (x, y) = false) : (us.zip vs).all f = false := by
 have : (us.zip vs)[k]? = some (x, y) := by exact List.getElem?_zip_eq_some.2 ⟨hx, hy⟩
 rw [List.all_eq_false]
 exact ⟨_, List.mem_of_getElem? this, by rw [h]; simp⟩
set_option maxHeartbeats 4000000 in
theorem Bh9 (p : Option Addr) (l : List S132) (a b : S39) (w : World) (h5 : ¬ (a.f0 = 5 ∧ b.f0 = 5)) :
  Calls Tryz.prog 122 #[.pointer p, .agg #[.int .i64 a.f0, .bool a.f1, .int .i64 a.f2], .agg #[.int .i64 b.f0, .bool b.f1, .int .i64 b.f2]] w fun e w' => e = .returned (.bool (valM l a b)) ∧ Below w.heap.size w w' := by
 obtain ⟨x0, x1, x2⟩ := a
 obtain ⟨y0, y1, y2⟩ := b
 dsimp only at h5 ⊢
 have ba : Below w.heap.size w ((w.alloc (.cells #[.int .i64 x0, .bool x1, .int .i64 x2] 39)).alloc (.cells #[.int .i64 y0, .bool y1, .int .i64 y2] 39)) := (bz_).alloc (by simp) _
 have BA := zA ba
 clear ba
 by_cases h1 : x0 = y0
 ·subst h1
  have h4 : ¬ x0 = 5 := fun h => h5 ⟨h, h⟩
  by_cases h2 : 1 ≤ x0
  ·by_cases h3 : x0 ≤ 7
   ·have EM : Aa2 (valM l ⟨x0, x1, x2⟩ ⟨x0, y1, y2⟩ = true) := ⟨by simp [valM, h2, h3, h4]⟩
    have hlt : ¬ x0 < 1 := by omega
    have hgt : ¬ 7 < x0 := by omega
    have hne : (x0 != 5) = true := by simp [h4]
    clear h5
    go_enter Tryz.func122, Tryz.ntmps122
    go_wp2_with fail
    go_ret
    exact ⟨by rw [EM.out]; rfl, BA.out⟩
   ·have EM : Aa2 (valM l ⟨x0, x1, x2⟩ ⟨x0, y1, y2⟩ = false) := ⟨by simp [valM, h2, h3]⟩
    have hlt : ¬ x0 < 1 := by omega
    have hgt : 7 < x0 := by omega
    clear h5
    go_enter Tryz.func122, Tryz.ntmps122
    go_wp2_with fail
    go_ret
    exact ⟨by rw [EM.out]; rfl, BA.out⟩
  ·have EM : Aa2 (valM l ⟨x0, x1, x2⟩ ⟨x0, y1, y2⟩ = false) := ⟨by simp [valM, h2]⟩
   have hlt : x0 < 1 := by omega
   clear h5
   go_enter Tryz.func122, Tryz.ntmps122
   go_wp2_with fail
   go_ret
   exact ⟨by rw [EM.out]; rfl, BA.out⟩
 ·have EM : Aa2 (valM l ⟨x0, x1, x2⟩ ⟨y0, y1, y2⟩ = false) := ⟨by simp [valM, h1]⟩
  have e1 : (x0 != y0) = true := by simp [h1]
  clear h5
  go_enter Tryz.func122, Tryz.ntmps122
  go_wp2_with fail
  go_ret
  exact ⟨by rw [EM.out]; rfl, BA.out⟩
set_option maxHeartbeats 4000000 in
theorem Bi0 (l : List S132) (hc : Clo l) (cb : Nat) (a b : S39) (w : World) (hctx : Ctx l cb w) (hll : (flat l).length ≤ 1048576) :
  Calls Tryz.prog 122 #[.pointer (some ⟨cb, 0, none⟩), .agg #[.int .i64 a.f0, .bool a.f1, .int .i64 a.f2], .agg #[.int .i64 b.f0, .bool b.f1, .int .i64 b.f2]] w fun e w' => e = .returned (.bool (valM l a b)) ∧ Below w.heap.size w w' := by
 by_cases h5 : a.f0 = 5 ∧ b.f0 = 5
 rotate_left
 ·exact Bh9 _ l a b w h5
 obtain ⟨x0, x1, x2⟩ := a
 obtain ⟨y0, y1, y2⟩ := b
 dsimp only at h5 ⊢
 obtain ⟨rfl, rfl⟩ := h5
 have ba : Below w.heap.size w ((w.alloc (.cells #[.int .i64 5, .bool x1, .int .i64 x2] 39)).alloc (.cells #[.int .i64 5, .bool y1, .int .i64 y2] 39)) := (bz_).alloc (by simp) _
 have BA := zA ba
 have K := Bt0 l hc cb x2 y2 _ (hctx.below ba) hll
 obtain ⟨h, hh⟩ : ∃ h, h = Ai7 l x2 y2 := ⟨_, rfl⟩
 have EM : Aa2 (valM l ⟨5, x1, x2⟩ ⟨5, y1, y2⟩ = (h && (!x1 || y1))) := ⟨by rw [hh]; simp [valM]⟩
 rw [← hh] at K
 clear hctx hc hll ba hh
 go_enter Tryz.func122, Tryz.ntmps122
 go_wp2_with fail
 refine K.mono ?_
 rintro e w1 ⟨rfl, hb⟩
 have B1 : Aa2 (Below w.heap.size w w1) := ⟨BA.out.trans (hb.mono BA.out.size)⟩
 have q0 := Aa3 (Aa5 (Aa6 w (.cells #[.int .i64 5, .bool x1, .int .i64 x2] 39)) (.cells #[.int .i64 5, .bool y1, .int .i64 y2] 39)) hb
 have q1 : w1.heap[w.heap.size + 1]? = some (.cells #[.int .i64 5, .bool y1, .int .i64 y2] 39 (0, 0)) := by have h_ := Aa3 (Aa6 (w.alloc (.cells #[.int .i64 5, .bool x1, .int .i64 x2] 39)) (.cells #[.int .i64 5, .bool y1, .int .i64 y2] 39)) hb; rw [World.size_alloc] at h_; exact h_
 have z0 : w1.cell? ⟨w.heap.size, 1, none⟩ = some (.bool x1) := (Aa0 q0 1).trans rfl
 have z1 : w1.cell? ⟨w.heap.size + 1, 1, none⟩ = some (.bool y1) := (Aa0 q1 1).trans rfl
 clear hb K q0 q1
 cases h <;> cases x1 <;> cases y1 <;>
  (go_wp2_with fail
   go_ret
   exact ⟨by rw [EM.out]; rfl, B1.out⟩)
set_option maxHeartbeats 8000000 in
theorem Bs9 (hb_ : Nat) (l : List S132) (Aa : Option Addr) (ca : Nat) (us : List S39) (Ab : Option Addr) (cb : Nat) (vs : List S39) (w : World) (hl : Ctx l hb_ w) (hll : (flat l).length ≤ 1048576) (hc : Clo l) (hA : Kd.C k39 w Aa us.length us) (hB : Kd.C k39 w Ab vs.length vs) (hn : us.length ≤ 1048576) :
  Calls Tryz.prog 83 #[.pointer (some ⟨hb_, 0, none⟩), .slice Aa us.length ca, .slice Ab vs.length cb] w fun e w' => e = .returned (.bool (Az5 l us vs)) ∧ Below w.heap.size w w' := by
 have HL := zA hl
 have HC := zA hc
 have HLL := zA hll
 have HA := zA hA
 have HB := zA hB
 clear hl hll hc hA hB
 by_cases hlen : us.length = vs.length
 rotate_left
 ·have EM : Aa2 (Az5 l us vs = false) := ⟨by simp [Az5, hlen]⟩
  have e1 : ((us.length : Int) != (vs.length : Int)) = true := by simp; omega
  go_enter Tryz.func83, Tryz.ntmps83
  go_wp2_with fail
  go_ret
  exact ⟨by rw [EM.out]; rfl, Below.refl _ _⟩
 have EV : Aa2 (Az5 l us vs = (us.zip vs).all fun p => valM l p.1 p.2) := ⟨by simp [Az5, hlen]⟩
 obtain ⟨n, hnn⟩ : ∃ n, n = us.length := ⟨_, rfl⟩
 have NA := zA hnn
 have NB : Aa2 (n = vs.length) := ⟨hnn.trans hlen⟩
 rw [← hlen, ← hnn]
 rw [← hnn] at hn
 rw [← NA.out] at HA
 rw [← NB.out] at HB
 clear hnn hlen
 go_enter Tryz.func83, Tryz.ntmps83
 go_wp2_with fail
 go_loopw [15] (fun i W => ∃ (k : Nat), i = .int .i64 k ∧ k ≤ n ∧ ((us.zip vs).take k).all (fun p => valM l p.1 p.2) = true ∧ Below w.heap.size w W) (fun i _ => n - (intOf i).toNat)
 case atStart => exact ⟨0, rfl, Nat.zero_le _, by simp, Below.refl _ _⟩
 case round =>
  obtain ⟨k, rfl, hk, hall, hbw⟩ := hrel
  have W0 := zA hbw
  have ALL := zA hall
  clear hall hbw
  have k0 : (0 : Int) ≤ (k : Int) := Int.natCast_nonneg k
  by_cases hlk : k < n
  ·obtain ⟨aa, ea, d0, d1, d2⟩ := Aq4 HA.out (k : Int) k0 (by omega)
   obtain ⟨ab, eb, f0, f1, f2⟩ := Aq4 HB.out (k : Int) k0 (by omega)
   subst ea
   subst eb
   have XA : Aa2 (us[k]? = some (Ac7 us (k : Int))) := ⟨by unfold Ac7; rw [Int.toNat_natCast, List.getD_eq_getElem?_getD, List.getElem?_eq_getElem (by have := NA.out; omega)]; rfl⟩
   have XB : Aa2 (vs[k]? = some (Ac7 vs (k : Int))) := ⟨by unfold Ac7; rw [Int.toNat_natCast, List.getD_eq_getElem?_getD, List.getElem?_eq_getElem (by have := NB.out; omega)]; rfl⟩
   obtain ⟨x, hx⟩ : ∃ x, x = Ac7 us (k : Int) := ⟨_, rfl⟩
   obtain ⟨y, hy⟩ : ∃ y, y = Ac7 vs (k : Int) := ⟨_, rfl⟩
   rw [← hx] at d0 d1 d2 XA
   rw [← hy] at f0 f1 f2 XB
   clear hx hy
   simp only [Int.toNat_natCast] at d0 d1 d2 f0 f1 f2
   replace d0 := (W0.out.cell (World.block_lt_of_cell? w _ d0)).trans d0
   replace d1 := (W0.out.cell (World.block_lt_of_cell? w _ d1)).trans d1
   replace d2 := (W0.out.cell (World.block_lt_of_cell? w _ d2)).trans d2
   replace f0 := (W0.out.cell (World.block_lt_of_cell? w _ f0)).trans f0
   replace f1 := (W0.out.cell (World.block_lt_of_cell? w _ f1)).trans f1
   replace f2 := (W0.out.cell (World.block_lt_of_cell? w _ f2)).trans f2
   have kl : (k : Int) < (n : Int) := by omega
   go_wp2_with fail
   refine Ab3 (n := 11) (S := fun w' => w'.cell? (aa.add (k * 3)) = some (.int .i64 x.f0) ∧ w'.cell? ⟨(aa.add (k * 3)).block, (aa.add (k * 3)).off + 1, none⟩ = some (.bool x.f1) ∧ w'.cell? ⟨(aa.add (k * 3)).block, (aa.add (k * 3)).off + 2, none⟩ = some (.int .i64 x.f2) ∧ w'.cell? (ab.add (k * 3)) = some (.int .i64 y.f0) ∧ w'.cell? ⟨(ab.add (k * 3)).block, (ab.add (k * 3)).off + 1, none⟩ = some (.bool y.f1) ∧ w'.cell? ⟨(ab.add (k * 3)).block, (ab.add (k * 3)).off + 2, none⟩ = some (.int .i64 y.f2)) (ds := []) (bm_ 11 0) (by kernel_rfl) rfl rfl ⟨d0, d1, d2, f0, f1, f2⟩ (fun hHeld => ?_)
   have BD : Aa2 (Below w.heap.size w wr.drew) := ⟨W0.out.drew⟩
   replace d0 : wr.drew.cell? _ = _ := d0
   replace d1 : wr.drew.cell? _ = _ := d1
   replace d2 : wr.drew.cell? _ = _ := d2
   replace f0 : wr.drew.cell? _ = _ := f0
   replace f1 : wr.drew.cell? _ = _ := f1
   replace f2 : wr.drew.cell? _ = _ := f2
   generalize wr.drew = w5 at BD d0 d1 d2 f0 f1 f2 hHeld ⊢
   refine pz_ 0 18 11 1 ?_
   refine pz_ 1 19 11 3 ?_
   refine pz_ 2 20 11 7 ?_
   refine pz_ 3 21 11 15 ?_
   refine pz_ 5 23 11 47 ?_
   refine pz_ 6 24 11 111 ?_
   refine pz_ 7 25 11 239 ?_
   refine tz_ 4 22 11 255 hHeld ?_
   refine tz_ 8 26 11 511 hHeld ?_
   refine oz_ 9 27 11 1023 fun K hK => ?_
   refine gz_ Tryz.func122 #[.pointer (some ⟨hb_, 0, none⟩), .agg #[.int .i64 x.f0, .bool x.f1, .int .i64 x.f2], .agg #[.int .i64 y.f0, .bool y.f1, .int .i64 y.f2]] ?_
   refine (Bi0 l HC.out hb_ x y w5 (HL.out.below BD.out) HLL.out).mono ?_
   rintro e w6 ⟨rfl, hb6⟩
   have B6 := zA (BD.out.trans (hb6.mono BD.out.size))
   refine ⟨_, rfl, ?_⟩
   refine hK.out _ _ ⟨(hb6.cell (World.block_lt_of_cell? w5 _ d0)).trans d0, (hb6.cell (World.block_lt_of_cell? w5 _ d1)).trans d1, (hb6.cell (World.block_lt_of_cell? w5 _ d2)).trans d2, (hb6.cell (World.block_lt_of_cell? w5 _ f0)).trans f0, (hb6.cell (World.block_lt_of_cell? w5 _ f1)).trans f1, (hb6.cell (World.block_lt_of_cell? w5 _ f2)).trans f2⟩ (fun hHeld => ?_)
   clear hK K
   refine nz_ ?_
   refine pz_ 10 28 11 2047 ?_
   refine dz_ ?_

   clear d0 d1 d2 f0 f1 f2
   cases hv : valM l x y with
   | false =>
    have EF : Aa2 (Az5 l us vs = false) := ⟨by rw [EV.out]; exact zip_stop XA.out XB.out hv⟩
    clear hv
    go_wp2_with fail
    go_ret
    exact ⟨by rw [EF.out]; rfl, B6.out⟩
   | true =>
    have ES : Aa2 (((us.zip vs).take (k + 1)).all (fun p => valM l p.1 p.2) = true) := ⟨by rw [Bx6 XA.out XB.out, ALL.out, hv]; rfl⟩
    clear hv
    go_wp2_with fail
    go_roundw
    case rel => exact ⟨k + 1, by go_num, by omega, ES.out, B6.out⟩
    case measure => simp [intOf]; omega
  ·obtain rfl : k = n := by omega
   have EF : Aa2 (Az5 l us vs = true) := ⟨by
    have h := ALL.out
    rw [List.take_of_length_le (by rw [List.length_zip, ← NA.out, ← NB.out]; omega)] at h
    rw [EV.out]; exact h⟩
   clear hk hlk
   go_wp2_with fail
   go_ret
   exact ⟨by rw [EF.out]; rfl, W0.out⟩
structure Chg (M : Nat → Prop) (W W' : World) : Prop where
 os : W'.os = W.os
 tape : W'.tape = W.tape
 output : W'.output = W.output
 size : W.heap.size ≤ W'.heap.size
 same : ∀ k, k < W.heap.size → ¬ M k → W'.heap[k]? = W.heap[k]?
theorem Chg.refl (M : Nat → Prop) (W : World) : Chg M W W := ⟨rfl, rfl, rfl, Nat.le_refl _, fun _ _ _ => rfl⟩
theorem Chg.trans {M N K : Nat → Prop} {a b c : World} (h : Chg M a b) (k : Chg N b c) (hM : ∀ x, M x → K x ∨ a.heap.size ≤ x) (hN : ∀ x, N x → K x ∨ a.heap.size ≤ x) : Chg K a c :=
 ⟨k.os.trans h.os, k.tape.trans h.tape, k.output.trans h.output, Nat.le_trans h.size k.size, fun x hx hn =>
  have m : ¬ M x := fun e => (hM x e).elim hn (fun l => by omega)
  have n : ¬ N x := fun e => (hN x e).elim hn (fun l => by omega)
  (k.same x (Nat.lt_of_lt_of_le hx h.size) n).trans (h.same x hx m)⟩
theorem Chg.mono {M N : Nat → Prop} {a b : World} (h : Chg M a b) (hM : ∀ x, M x → N x ∨ a.heap.size ≤ x) : Chg N a b := (Chg.refl N a).trans h (fun x e => .inl e) hM
theorem Chg.of_below {W W' : World} (h : Below W.heap.size W W') (M : Nat → Prop) : Chg M W W' := ⟨h.os, h.tape, h.output, h.size, fun k hk _ => h.block k hk⟩
theorem Chg.blk {M : Nat → Prop} {W W' : World} (h : Chg M W W') {k : Nat} {o : Obj} (hb : W.heap[k]? = some o) (hn : ¬ M k) : W'.heap[k]? = some o :=
 (h.same k (Array.getElem?_eq_some_iff.1 hb).1 hn).trans hb
structure Fr where
 op : Int
 ins : List S39
 outs : List S39
 height : Nat
 sets : List Bool
 dead : Bool
structure Chk where
 l : List S132
 locals : List S39
 sets : List Bool
 results : List S39
 ops : List S39
 frames : List Fr
def v0 : S39 := ⟨0, false, 0⟩
noncomputable def matM (l : List S132) (a b : S39) : Bool := decide (a.f0 = 0) || (decide (b.f0 = 0) || valM l a b)
def popM (h : Nat) (dead : Bool) (ops : List S39) : Int × S39 × List S39 :=
 if h < ops.length then (0, ops.getLastD v0, ops.dropLast) else if dead then (0, v0, ops) else (130, v0, ops)
noncomputable def Ap5 (l : List S132) (h : Nat) (dead : Bool) (ops : List S39) (v : S39) : Int × S39 × List S39 :=
 if (popM h dead ops).1 ≠ 0 then (130, v0, ops) else if matM l (popM h dead ops).2.1 v then popM h dead ops else (131, v0, ops)
noncomputable def Ah5 (l : List S132) (h : Nat) (dead : Bool) : List S39 → List S39 → Int × List S39
 | [], ops => (0, ops)
 | v :: vs, ops => if (Ap5 l h dead ops v).1 = 0 then Ah5 l h dead vs (Ap5 l h dead ops v).2.2 else ((Ap5 l h dead ops v).1, ops)
noncomputable def Al5 (l : List S132) (h : Nat) (dead : Bool) (vs ops : List S39) : Int × List S39 :=
 if (Ah5 l h dead vs.reverse ops).1 = 0 then Ah5 l h dead vs.reverse ops else ((Ah5 l h dead vs.reverse ops).1, ops)
theorem Az7 {P : Program} {ops : Array Oper} {o : Oper} {a : Act} {Q : Exit → Act → World → Prop} {Kc : Act → World → Prop} {W : World} (hw : Region.wanted o (yielded ops a.tmps) = true) (s x : Operand) (t e : TypeId) (i : TypeInfo) (z : Value) (size bytes : Nat)
  (hop : o.op = .call { callee := .builtin .append, args := #[s, x], argTypes := #[t, t] })
  (h1 : P.underlying t = some (.slice e)) (h2 : P.info? e = some i) (h3 : i.zero = some z) (h4 : i.size = size) (h5 : i.bytes = bytes) (h6 : z.cells.size = size) (h7 : 0 < size)
  (b : Addr) (n cap : Nat) (olds : List Value) (hs : a.eval s = .slice (some b) n cap) (hlo : olds.length = n * size) (holds : ∀ j u, olds[j]? = some u → W.cell? (b.add j) = some u)
  (ad : Addr) (cs : List Value) (hx : a.eval x = .slice (some ad) 1 1) (hn : cs.length = 1 * size) (hc : ∀ j u, cs[j]? = some u → W.cell? (ad.add j) = some u)
  (hfull : cap < n + 1) (b1 : n + 1 ≤ maxLen) (b2 : (n + 1) * bytes ≤ 140737488355328)
  (h : ∀ v' w', w'.ownsRow W.heap.size e size v' (n + 1) (olds ++ cs) → W.grownBy w' none → Kc (a.put o.dst v') w') :
  if Region.wanted o (yielded ops a.tmps) = true then Oper.wp P o a W Kc Q else Kc (a.put o.dst undef) W := by
 rw [if_pos hw]
 obtain ⟨v', w', hrun, r1, r2⟩ := run_append_arg_grows (P := P) W t o.type e i z size bytes h1 h2 h3 h4 h5 h6 h7 b n cap olds hlo holds ad 1 1 cs hn hc hfull b1 b2
 unfold Oper.wp
 simp [execOp, hop, resolve, invoke, builtin, hs, hx, hrun, Result.andThen]
 exact h v' w' r1 r2
theorem Ag4 (g : Nat) (w : World) (h : w.cell? ⟨g, 0, none⟩ = some (.bool true)) : Calls Tryz.prog 49 #[.pointer (some ⟨g, 0, none⟩)] w fun e w' => e = .returned (.bool false) ∧ w' = w := by
 go_enter Tryz.func49, Tryz.ntmps49
 go_wp2_with fail
 go_ret
 exact ⟨rfl, rfl⟩
theorem Ae6 (g j : Nat) (A : Option Addr) (n c : Nat) (w : World) (h : w.cell? ⟨g, j, none⟩ = some (.slice A n c)) : Calls Tryz.prog 51 #[.pointer (some ⟨g, j, none⟩)] w fun e w' => e = .returned (.int .i64 n) ∧ w' = w := by
 go_enter Tryz.func51, Tryz.ntmps51
 go_wp2_with fail
 go_ret
 exact ⟨rfl, rfl⟩
theorem Ae5 (g j : Nat) (A : Option Addr) (n c : Nat) (w : World) (h : w.cell? ⟨g, j, none⟩ = some (.slice A n c)) : Calls Tryz.prog 71 #[.pointer (some ⟨g, j, none⟩)] w fun e w' => e = .returned (.int .i64 n) ∧ w' = w := by
 go_enter Tryz.func71, Tryz.ntmps71
 go_wp2_with fail
 go_ret
 exact ⟨rfl, rfl⟩
theorem Ag9 (g : Nat) (A : Option Addr) (n c : Nat) (w : World) (h : w.cell? ⟨g, 0, none⟩ = some (.bool true)) (h6 : w.cell? ⟨g, 6, none⟩ = some (.slice A n c)) (hn : 0 < n) : Calls Tryz.prog 42 #[.pointer (some ⟨g, 0, none⟩)] w fun e w' => e = .returned (.int .i64 0) ∧ w' = w := by
 have K1 := Ag4 g w h
 have K2 := Ae6 g 6 A n c w h6
 have hz : ((n : Int) == 0) = false := by simp; omega
 go_enter Tryz.func42, Tryz.ntmps42
 go_wp2_with fail
 refine K1.mono ?_
 rintro e w1 ⟨rfl, rfl⟩
 go_wp2_with fail
 refine K2.mono ?_
 rintro e w1 ⟨rfl, rfl⟩
 go_wp2_with fail
 go_ret
 exact ⟨rfl, rfl⟩
theorem Bd7 (g j : Nat) (A : Option Addr) (n c m : Nat) (w : World) (h : w.cell? ⟨g, j, none⟩ = some (.slice A n c)) (hf : w.frozen? ⟨g, j, none⟩ = false) (hm : m ≤ c) (hc : c ≤ 9223372036854775807) :
  Calls Tryz.prog 44 #[.pointer (some ⟨g, j, none⟩), .int .i64 m] w fun e w' => e = .returned (.tuple #[]) ∧ w' = w.setCell ⟨g, j, none⟩ (.slice A m m) := by
 have h1 : ((m : Int) ≤ (c : Int)) = True := by simp; omega
 go_enter Tryz.func44, Tryz.ntmps44
 go_wp2_with fail
 refine bodyPost_end (results_none (by kernel_rfl) _ _ _) rfl ?_
 exact ⟨rfl, rfl⟩
set_option maxHeartbeats 2000000 in
theorem Bv3 (g j : Nat) (ad : Addr) (m c : Nat) (w : World) (h : w.cell? ⟨g, j, none⟩ = some (.slice (some ad) (m + 1) c)) (hm : m + 1 ≤ 9223372036854775807) :
  Calls Tryz.prog 118 #[.pointer (some ⟨g, j, none⟩)] w fun e w' => e = .returned (.pointer (some (ad.add (m * 3)))) ∧ Below w.heap.size w w' := by
 have hw : wrap64 (((m + 1 : Nat) : Int) - 1) = (m : Int) := by unfold wrap64; omega
 have hw2 : wrap64 (m : Int) = (m : Int) := by unfold wrap64; omega
 have hb : ((m : Int) < (m : Int) + 1) = True := by simp; omega
 have hb2 : ((m : Int) < ((m + 1 : Nat) : Int)) = True := by simp; omega
 go_enter Tryz.func118, Tryz.ntmps118
 go_wp2_with fail
 refine Ab3 (n := 12) (S := fun w' => w'.cell? ⟨g, j, none⟩ = some (.slice (some ad) (m + 1) c)) (ds := []) (bm_ 12 0) (by kernel_rfl) rfl rfl (h) (fun hHeld => ?_)
 refine pz_ 0 3 12 1 ?_
 refine pz_ 1 4 12 3 ?_
 refine pz_ 2 5 12 7 ?_
 refine pz_ 4 7 12 23 ?_
 refine pz_ 5 8 12 55 ?_
 refine pz_ 6 9 12 119 ?_
 refine tz_ 3 6 12 127 hHeld ?_
 refine tz_ 7 10 12 255 hHeld ?_
 refine pz_ 8 11 12 511 ?_
 refine pz_ 9 12 12 1023 ?_
 refine pz_ 10 13 12 2047 ?_
 refine pz_ 11 2 12 4095 ?_
 refine dz_ ?_

 go_wp2_with fail
 go_ret
 exact ⟨rfl, (Below.refl _ _).drew⟩
set_option maxHeartbeats 2000000 in
theorem Bv5 (g j : Nat) (ad : Addr) (m c : Nat) (w : World) (h : w.cell? ⟨g, j, none⟩ = some (.slice (some ad) (m + 1) c)) (hm : m + 1 ≤ 9223372036854775807) :
  Calls Tryz.prog 43 #[.pointer (some ⟨g, j, none⟩)] w fun e w' => e = .returned (.pointer (some (ad.add (m * 6)))) ∧ Below w.heap.size w w' := by
 have hw : wrap64 (((m + 1 : Nat) : Int) - 1) = (m : Int) := by unfold wrap64; omega
 have hw2 : wrap64 (m : Int) = (m : Int) := by unfold wrap64; omega
 have hb : ((m : Int) < (m : Int) + 1) = True := by simp; omega
 have hb2 : ((m : Int) < ((m + 1 : Nat) : Int)) = True := by simp; omega
 go_enter Tryz.func43, Tryz.ntmps43
 go_wp2_with fail
 refine Ab3 (n := 12) (S := fun w' => w'.cell? ⟨g, j, none⟩ = some (.slice (some ad) (m + 1) c)) (ds := []) (bm_ 12 0) (by kernel_rfl) rfl rfl (h) (fun hHeld => ?_)
 refine pz_ 0 3 12 1 ?_
 refine pz_ 1 4 12 3 ?_
 refine pz_ 2 5 12 7 ?_
 refine pz_ 4 7 12 23 ?_
 refine pz_ 5 8 12 55 ?_
 refine pz_ 6 9 12 119 ?_
 refine tz_ 3 6 12 127 hHeld ?_
 refine tz_ 7 10 12 255 hHeld ?_
 refine pz_ 8 11 12 511 ?_
 refine pz_ 9 12 12 1023 ?_
 refine pz_ 10 13 12 2047 ?_
 refine pz_ 11 2 12 4095 ?_
 refine dz_ ?_

 go_wp2_with fail
 go_ret
 exact ⟨rfl, (Below.refl _ _).drew⟩
def CR (sz e : Nat) (ok : Nat → Prop) (W : World) (A : Option Addr) (c : Nat) (xs : List (List Value)) : Prop :=
 ∃ (ys : List (List Value)) (c0 : Nat), (Kd.raw sz).R e W 0 ok (.slice A ys.length c0) ys ∧ xs = ys.take xs.length ∧ (c = c0 ∧ xs = ys ∨ c = xs.length)
section
variable {sz e : Nat} {ok ok' : Nat → Prop} {W W' : World} {A : Option Addr} {c : Nat} {xs : List (List Value)}
theorem CR.nil (sz e : Nat) (ok : Nat → Prop) (W : World) : CR sz e ok W none 0 [] := ⟨[], 0, Kd.Aj9 _ _ _ _ _, rfl, .inl ⟨rfl, rfl⟩⟩
theorem CR.le {ys : List (List Value)} (h : xs = ys.take xs.length) : xs.length ≤ ys.length := by
 have := congrArg List.length h
 rw [List.length_take] at this
 omega
theorem CR.cut (h : CR sz e ok W A c xs) (m : Nat) (hm : m ≤ xs.length) : CR sz e ok W A m (xs.take m) := by
 obtain ⟨ys, c0, h1, h2, h3⟩ := h
 have hl : (xs.take m).length = m := by rw [List.length_take]; omega
 refine ⟨ys, c0, h1, ?_, .inr hl.symm⟩
 rw [hl]
 conv => lhs; rw [h2, List.take_take, Nat.min_eq_left hm]
theorem CR.step (h : CR sz e ok W A c xs) (hm : ∀ k, ok k → k < W.heap.size → W'.heap[k]? = W.heap[k]?) : CR sz e ok W' A c xs := by
 obtain ⟨ys, c0, h1, h2, h3⟩ := h
 exact ⟨ys, c0, Kd.Aw5 h1 hm, h2, h3⟩
theorem CR.mono (h : CR sz e ok W A c xs) (hm : ∀ k, ok k → ok' k) : CR sz e ok' W A c xs := by
 obtain ⟨ys, c0, h1, h2, h3⟩ := h
 exact ⟨ys, c0, Kd.Af7 h1 hm, h2, h3⟩
theorem Cg6 {A : Option Addr} {n c : Nat} : (Value.slice A n c).ownBlock = A.map (·.block) := by cases A <;> rfl
theorem CR.tight (h : CR sz e ok W A c xs) : CR sz e (fun k => some k = A.map (·.block)) W A c xs := by
 obtain ⟨ys, c0, h1, h2, h3⟩ := h
 have := Kd.Bx3 rfl h1
 rw [Cg6] at this
 exact ⟨ys, c0, this, h2, h3⟩
theorem CR.blk (h : CR sz e ok W A c xs) : ∀ k, some k = A.map (·.block) → ok k ∧ k < W.heap.size ∧ ∃ cells, W.heap[k]? = some (.cells cells e (0, 0)) := by
 obtain ⟨ys, c0, h1, h2, h3⟩ := h
 intro k hk
 have e1 : (Value.slice A ys.length c0).ownBlock = some k := by rw [Cg6, hk]
 exact ⟨h1.1 k e1, Kd.R_lt h1 k e1, Kd.Bm9 h1 k e1⟩
theorem CR.ne (h : CR sz e ok W A c xs) {g t : Nat} {cells : Array Value} (hb : W.heap[g]? = some (.cells cells t (0, 0))) (ht : e ≠ t) : some g ≠ A.map (·.block) := by
 intro he
 obtain ⟨_, _, cs, h1⟩ := h.blk g he
 rw [hb] at h1
 injection h1 with h1
 injection h1 with _ h1
 exact ht h1.symm
theorem CR.reads (h : CR sz e ok W A c xs) : xs.length ≤ c ∧ (Kd.raw sz).C W A xs.length xs := by
 obtain ⟨ys, c0, h1, h2, h3⟩ := h
 obtain ⟨A', c', e, hl, hC⟩ := Kd.Ae4 h1
 injection e with e1 e2 e3
 subst e1 e3
 have hle := CR.le h2
 have hx := Kd.C_take hC hle
 rw [← h2] at hx
 refine ⟨?_, hx⟩
 rcases h3 with ⟨rfl, rfl⟩ | rfl
 ·exact hl
 ·exact Nat.le_refl _
theorem CR.cap (h : CR sz e ok W A c xs) : c ≤ 9223372036854775807 := by
 have hr := h.reads.2.2.1
 obtain ⟨ys, c0, h1, h2, h3⟩ := h
 rcases h3 with ⟨rfl, _⟩ | rfl
 ·obtain ⟨_, inner, ho, _⟩ := h1
  rcases ho.2 with ⟨hv, _⟩ | ⟨g, cap, cur, hv, _, _, _, hm, _⟩
  ·injection hv with _ _ hc
   omega
  ·injection hv with _ _ hc
   unfold maxLen at hm
   omega
 ·exact hr
theorem CR.cell (h : CR sz e ok W A c xs) {i j : Nat} {cs : List Value} {u : Value} (hi : xs[i]? = some cs) (hj : cs[j]? = some u) : ∃ ad, A = some ad ∧ W.cell? (ad.add (i * sz + j)) = some u := by
 obtain ⟨_, hC⟩ := h.reads
 obtain ⟨ad, e1, hc⟩ := hC.2.2 (by have := (List.getElem?_eq_some_iff.1 hi).1; omega)
 obtain ⟨c', _, ⟨rfl, _⟩, hcc⟩ := hc i cs hi
 exact ⟨ad, e1, hcc j u hj⟩
theorem CR.fresh {w1 : World} {v : Value} {xs : List (List Value)} (h : (Kd.raw sz).R e w1 0 ok v xs) : ∃ A c, v = .slice A xs.length c ∧ CR sz e ok w1 A c xs := by
 obtain ⟨A, c, rfl⟩ := Kd.Aa9 h
 exact ⟨A, c, rfl, xs, c, h, by rw [List.take_length], .inl ⟨rfl, rfl⟩⟩
theorem Az2 {W W1 : World} {o : Option Nat} {ok : Nat → Prop} (h : W.grownBy W1 o) (ho : ∀ k, o = some k → ok k) : Chg ok W W1 := ⟨h.os, h.tape, h.output, h.size, fun k hk hn => h.block k hk (fun e => hn (ho k e.symm))⟩
theorem Bf6 (M : Nat → Prop) (W : World) (o : Obj) : Chg M W (W.alloc o) := Chg.of_below (bz_) M
theorem Cb2 {W : World} {b : Nat} {v : Value} {inner : List Value} {xs : List (List Value)} (ho : W.ownsRow b e sz v xs.length inner) (hr : Reps ((Kd.raw sz).M W 0 (fun _ => True)) sz xs inner) (hok : ∀ k, b ≤ k → ok k) : (Kd.raw sz).R e W 0 ok v xs :=
 ⟨fun k hk => hok k (Al6 ho k hk), inner, Bi7 ho (Nat.zero_le _), hr⟩
theorem CR.push_step {P : Program} {ops : Array Oper} {o : Oper} {a : Act} {Q : Exit → Act → World → Prop} {Kc : Act → World → Prop} (hw : Region.wanted o (yielded ops a.tmps) = true) (s x : Operand) (t : TypeId) (z : Value) (bytes : Nat) {cs : List Value}
  (hop : o.op = .call { callee := .builtin .append, args := #[s, x], argTypes := #[t, t] })
  (ht : P.underlying t = some (.slice e)) (hinfo : (P.info? e).map (fun i => (i.zero, i.size, i.bytes)) = some (some z, sz, bytes)) (hz : z.cells.size = sz) (hs0 : 0 < sz) (hb0 : 0 < bytes)
  (h : CR sz e ok W A c xs) (hs : a.eval s = .slice A xs.length c) (hx : a.eval x = .slice (some ⟨W.heap.size, 0, none⟩) 1 1) (hcs : cs.length = sz) (h1c : ∀ u ∈ cs, u.oneCell' = true) (hl : (xs.length + 1) * bytes ≤ 140737488355328)
  (hK : ∀ A' c' w1, CR sz e (fun k => ok k ∨ W.heap.size ≤ k) w1 A' c' (xs ++ [cs]) → Chg (fun k => some k = A.map (·.block) ∧ xs.length ≠ c) W w1 → Kc (a.put o.dst (.slice A' (xs.length + 1) c')) w1) :
  if Region.wanted o (yielded ops a.tmps) = true then Oper.wp P o a (W.alloc (.cells cs.toArray e)) Kc Q else Kc (a.put o.dst undef) (W.alloc (.cells cs.toArray e)) := by
 have hle : xs.length + 1 ≤ 140737488355328 := Nat.le_trans (Nat.le_mul_of_pos_right _ hb0) hl
 have hcr := h
 obtain ⟨ys, c0, h1, h2, h3⟩ := h
 have e1 : (xs ++ [cs]).length = xs.length + 1 := by simp
 have own : c = c0 ∧ xs = ys → (∀ k, some k = A.map (·.block) → xs.length ≠ c) → if Region.wanted o (yielded ops a.tmps) = true then Oper.wp P o a (W.alloc (.cells cs.toArray e)) Kc Q else Kc (a.put o.dst undef) (W.alloc (.cells cs.toArray e)) := by
  rintro ⟨rfl, rfl⟩ hne
  refine Kd.Ab9 (Kd.raw sz) (w0 := W) 0 hw s x t e z bytes hop ht hinfo hz hs0 hb0 (.slice A xs.length c) xs cs cs (fun k => ok k ∨ W.heap.size ≤ k) (fun _ => False) hs hx ⟨rfl, hcs, h1c⟩ (fun _ hk => hk.elim) (fun _ hk => .inr hk) (Kd.Af7 h1 (fun _ hk => .inl hk)) ⟨rfl, rfl, rfl, Nat.le_refl _, fun _ _ => rfl⟩ (Nat.zero_le _) hl ?_
  intro v1 w1 hr hb hg hat
  obtain ⟨A', c', e2, hcr⟩ := CR.fresh hr
  rw [e1] at e2
  subst e2
  exact hK A' c' w1 hcr (Az2 hg (fun k hk => by rw [Cg6] at hk; exact ⟨hk.symm, hne k hk.symm⟩))
 by_cases hfull : xs.length = c
 rotate_left
 ·rcases h3 with h3 | h3
  ·exact own h3 (fun _ _ => hfull)
  ·exact absurd h3.symm hfull
 replace h3 := hfull.symm
 cases A with
 | none =>
  obtain ⟨_, inner, ho, hr⟩ := h1
  rcases ho.2 with ⟨hv, _⟩ | ⟨g, cap, cur, hv, _⟩
  ·injection hv with _ hn hc
   have hy : ys = [] := List.eq_nil_of_length_eq_zero hn
   subst hy
   have hx0 : xs = [] := by rw [h2]; simp
   refine own ⟨by rw [h3, hx0, hc]; rfl, hx0⟩ (fun _ e => by cases e)
  ·injection hv with hv
   cases hv
 | some ad =>
  obtain ⟨_, hC⟩ := hcr.reads
  obtain ⟨inner, hR, hcell⟩ := Ac9.inner_ hC
  obtain ⟨i0, hi, hzz⟩ := Option.map_eq_some_iff.1 hinfo
  simp only [Prod.mk.injEq] at hzz
  obtain ⟨hz0, hz1, hz2⟩ := hzz
  have hb := (Below.refl W.heap.size W).alloc (Nat.le_refl _) (.cells cs.toArray e)
  refine Az7 (W := W.alloc (.cells cs.toArray e)) hw s x t e i0 z sz bytes hop ht hi hz0 hz1 hz2 hz hs0 ad xs.length c inner hs hR.1 (fun j u hu => Av6 hb (hcell j u hu)) ⟨W.heap.size, 0, none⟩ cs hx (by rw [hcs, Nat.one_mul]) (fun j u hu => ?_) (by omega) (by unfold maxLen; omega) hl ?_
  ·rw [Addr.add_lit, Nat.zero_add]
   have h4 := Aa0 (Aa6 W (.cells cs.toArray e)) j
   rw [h4, List.getElem?_toArray]
   exact hu
  ·intro v' w' r1 r2
   have hown : (Kd.raw sz).R e w' 0 (fun k => ok k ∨ W.heap.size ≤ k) v' (xs ++ [cs]) := Cb2 (by rw [e1]; exact r1) ((hR.imp_ (fun _ _ hp => hp)).snoc ⟨rfl, hcs, h1c⟩ hcs) (fun k hk => .inr (by rw [World.size_alloc] at hk; omega))
   obtain ⟨A', c', e2, hcr⟩ := CR.fresh hown
   rw [e1] at e2
   subst e2
   exact hK A' c' w' hcr ((Bf6 _ W _).trans (Az2 (ok := fun _ => False) r2 (fun k hk => by cases hk)) (fun x h => .inl h) (fun x h => h.elim))
theorem Ae0 (W : World) (g j : Nat) (u : Value) : Chg (fun k => k = g) W (W.setCell ⟨g, j, none⟩ u) :=
 ⟨rfl, rfl, rfl, Nat.le_of_eq (World.size_setCell W _ u).symm, fun k _ hn => Below.heap_setCell W ⟨g, j, none⟩ u k hn⟩
theorem CR.set (h : CR sz e ok W A c xs) {g t : Nat} {cells : Array Value} (hb : W.heap[g]? = some (.cells cells t (0, 0))) (ht : e ≠ t) (j : Nat) (u : Value) : CR sz e ok (W.setCell ⟨g, j, none⟩ u) A c xs :=
 (h.tight.step (fun k hk _ => Below.heap_setCell W ⟨g, j, none⟩ u k (fun e => h.ne hb ht (by have e' : k = g := e; rw [← e']; exact hk)))).mono (fun k hk => (h.blk k hk).1)
def Au9 (sz e : Nat) (ok : Nat → Prop) (g j : Nat) (cells : Array Value) (t : Nat) (A : Option Addr) (xs : List (List Value)) (cs : List Value) (c : Nat) (w : World) (e' : Ending) (w' : World) : Prop :=
 ∃ A' c', e' = .returned (.tuple #[]) ∧ CR sz e (fun k => ok k ∨ w.heap.size ≤ k) w' A' c' (xs ++ [cs]) ∧ w'.heap[g]? = some (.cells (cells.setIfInBounds j (.slice A' (xs.length + 1) c')) t (0, 0)) ∧ Chg (fun k => k = g ∨ some k = A.map (·.block) ∧ xs.length ≠ c) w w'
theorem Au9.mk {g j t : Nat} {cells : Array Value} {cs : List Value} {w w7 w8 : World} {A' : Option Addr} {c' : Nat} (h0 : CR sz e ok w A c xs) (hbox : w.heap[g]? = some (.cells cells t (0, 0))) (ht : e ≠ t) (hb : Below w.heap.size w w7) (hcr : CR sz e (fun k => ok k ∨ w7.heap.size ≤ k) w8 A' c' (xs ++ [cs])) (hch : Chg (fun k => some k = A.map (·.block) ∧ xs.length ≠ c) w7 w8) :
  Au9 sz e ok g j cells t A xs cs c w (.returned (.tuple #[])) (w8.setCell ⟨g, j, none⟩ (.slice A' (xs.length + 1) c')) := by
 have c1 := (Chg.of_below hb (fun _ => False)).trans (K := fun k => some k = A.map (·.block) ∧ xs.length ≠ c) hch (fun _ e => e.elim) (fun _ e => .inl e)
 have h8 := c1.blk hbox (fun e => h0.ne hbox ht e.1)
 refine ⟨A', c', rfl, (hcr.mono (fun k hk => hk.imp id (fun l => Nat.le_trans hb.size l))).set h8 ht j _, Aa7 h8 j _, c1.trans (Ae0 w8 g j _) (fun _ e => .inl (.inr e)) (fun _ e => .inl (.inl e))⟩
end
def LK {α : Type} (d : Kd α) (S : Nat → Prop) (w : World) (v : Value) (xs : List α) : Prop := Kd.V d 0 w 0 (fun k => ¬ S k) v xs
section
variable {α : Type} {d : Kd α} {S S' N : Nat → Prop} {w w' : World} {v : Value} {xs : List α}
theorem LK.to (h : LK d S w v xs) (c : Chg N w w') (hN : ∀ x, N x → S x ∨ w.heap.size ≤ x) (hS : ∀ x, S' x → S x ∨ w.heap.size ≤ x) : LK d S' w' v xs :=
 Kd.Az3 (Kd.V_step (Kd.V_bound h) (fun k hk hl => c.same k hl (fun e => (hN k e).elim hk.1 (fun l => by omega)))) (fun k hk e => (hS k e).elim hk.1 (fun l => by have := hk.2; omega))
theorem LK.below (h : LK d S w v xs) (hb : Below w.heap.size w w') : LK d S w' v xs := Kd.Bx1 h hb
theorem LK.nil (d : Kd α) (S : Nat → Prop) (w : World) : LK d S w (.slice none 0 0) [] := Kd.V_nil d 0 w 0 _
theorem LK.mk {A : Option Addr} {c : Nat} (hl : xs.length ≤ c) (hf : Kd.F d w (fun k => ¬ S k) A xs.length xs) : LK d S w (.slice A xs.length c) xs := ⟨A, c, rfl, hl, hf⟩
theorem LK.slice (h : LK d S w v xs) : ∃ A c, v = .slice A xs.length c := Kd.V_slice h
theorem LK.reads {A : Option Addr} {n c : Nat} (h : LK d S w (.slice A n c) xs) : n = xs.length ∧ n ≤ c ∧ d.C w A xs.length xs := Kd.V_reads' h
theorem LK.F {A : Option Addr} {n c : Nat} (h : LK d S w (.slice A n c) xs) : Kd.F d w (fun k => ¬ S k) A n xs := Kd.V_F h
theorem LK.mono (h : LK d S w v xs) (hS : ∀ x, S' x → S x) : LK d S' w v xs := Kd.Az3 h (fun k hk e => hk (hS k e))
theorem LK.fresh {e b : Nat} {ok : Nat → Prop} (h : d.R e w b ok v xs) (hS : ∀ x, S x → x < b) : LK d S w v xs := by
 have h1 := Kd.R_V (base' := 0) (Kd.Af6 h)
 have h2 := h1
 exact Kd.Az3 h2 (fun k hk e => by have := hk.2.1; have := hS k e; omega)
theorem LK.lent (hd : Kd.Heap d) {w0 : World} {A : Option Addr} {c : Nat} (hl : xs.length ≤ c) (h : d.C w0 A xs.length xs) (hb : Below w0.heap.size w0 w) (hS : ∀ x, S x → w0.heap.size ≤ x) : LK d S w (.slice A xs.length c) xs :=
 Kd.Az3 (Kd.Bx1 (v := .slice A xs.length c) ⟨A, c, rfl, hl, Kd.C_F hd h⟩ hb) (fun k hk e => by have := hS k e; omega)
end
def cVT (x : S39) : List Value := [.int .i64 x.f0, .bool x.f1, .int .i64 x.f2]
def Fr.p (x : Fr) : S105 := ⟨x.op, x.ins, x.outs, x.height, x.sets, x.dead⟩
def FmR (ok sh : Nat → Prop) (W : World) (A : Option Addr) (c : Nat) (xs : List Fr) : Prop :=
 ∃ rows, rows.length = xs.length ∧ CR 6 105 ok W A c rows ∧ ∀ (j : Nat) (x : Fr) (cs : List Value), xs[j]? = some x → rows[j]? = some cs → Kd.FK k105 W sh x.p cs
theorem FmR.step {ok sh : Nat → Prop} {W W' : World} {A : Option Addr} {c : Nat} {xs : List Fr} (h : FmR ok sh W A c xs) (hm : ∀ k, ok k ∨ sh k → k < W.heap.size → W'.heap[k]? = W.heap[k]?) : FmR ok sh W' A c xs := by
 obtain ⟨rows, hl, hr, hf⟩ := h
 exact ⟨rows, hl, hr.step (fun k hk => hm k (.inl hk)), fun j x cs hx hc => Kd.Al0 (hf j x cs hx hc) (fun k hk => hm k (.inr hk))⟩
theorem FmR.mono {ok ok' sh sh' : Nat → Prop} {W : World} {A : Option Addr} {c : Nat} {xs : List Fr} (h : FmR ok sh W A c xs) (h1 : ∀ k, ok k → ok' k) (h2 : ∀ k, sh k → k < W.heap.size → sh' k) : FmR ok' sh' W A c xs := by
 obtain ⟨rows, hl, hr, hf⟩ := h
 exact ⟨rows, hl, hr.mono h1, fun j x cs hx hc => Kd.As1 (Kd.At3 (hf j x cs hx hc)) (fun k hk => h2 k hk.1 hk.2)⟩
theorem FmR.tight {ok sh : Nat → Prop} {W : World} {A : Option Addr} {c : Nat} {xs : List Fr} (h : FmR ok sh W A c xs) : FmR (fun k => some k = A.map (·.block)) sh W A c xs := by
 obtain ⟨rows, hl, hr, hf⟩ := h
 exact ⟨rows, hl, hr.tight, hf⟩
theorem FmR.cut {ok sh : Nat → Prop} {W : World} {A : Option Addr} {c : Nat} {xs : List Fr} (h : FmR ok sh W A c xs) (m : Nat) (hm : m ≤ xs.length) : FmR ok sh W A m (xs.take m) := by
 obtain ⟨rows, hl, hr, hf⟩ := h
 refine ⟨rows.take m, by rw [List.length_take, List.length_take, hl], hr.cut m (by omega), fun j x cs hx hc => ?_⟩
 rw [List.getElem?_take] at hx hc
 split at hx
 ·rename_i hj
  rw [if_pos hj] at hc
  exact hf j x cs hx hc
 ·cases hx
theorem Af5 {N : Nat → Prop} {W W' : World} {B : Nat} (c : Chg N W W') (hB : B ≤ W.heap.size) (hN : ∀ x, N x → B ≤ x) : Below B W W' := ⟨c.os, c.tape, c.output, c.size, fun k hk => c.same k (by omega) (fun e => by have := hN k e; omega)⟩
structure StV (D S : Nat → Prop) (g : Nat) (k : Chk) (W : World) (v1 v2 v3 v4 : Value) (ao : Option Addr) (co : Nat) (af : Option Addr) (cf : Nat) : Prop where
 box : W.heap[g]? = some (.cells #[.bool true, v1, v2, v3, v4, .slice ao k.ops.length co, .slice af k.frames.length cf] 102 (0, 0))
 lst : LK k132 (fun x => S x ∨ D x) W v1 k.l
 loc : LK k39 (fun x => S x ∨ D x) W v2 k.locals
 set : LK Kd.bool (fun x => S x ∨ D x) W v3 k.sets
 res : LK k39 (fun x => S x ∨ D x) W v4 k.results
 ops : CR 3 39 S W ao co (k.ops.map cVT)
 frs : FmR S (fun x => ¬ (S x ∨ D x)) W af cf k.frames
 own : S g
 lt : ∀ x, S x ∨ D x → x < W.heap.size
 apart : ∀ x, S x → ¬ D x
 tab : ∃ B, (∀ x, S x ∨ D x → B ≤ x) ∧ B ≤ W.heap.size ∧ Lib.TabBelow Tryz.prog B W "internal/strconv.uint64pow10" .u64 Lib.pow10Tab
def St (D S : Nat → Prop) (g : Nat) (k : Chk) (W : World) : Prop := ∃ v1 v2 v3 v4 ao co af cf, StV D S g k W v1 v2 v3 v4 ao co af cf
section
variable {D S N S' : Nat → Prop} {g : Nat} {k k' : Chk} {W W' : World} {v1 v2 v3 v4 v3' : Value} {ao ao' : Option Addr} {co co' : Nat} {af af' : Option Addr} {cf cf' : Nat}
theorem StV.chg (h : StV D S g k W v1 v2 v3 v4 ao co af cf) (c : Chg N W W') (hN : ∀ x, N x → D x ∨ W.heap.size ≤ x) : StV D S g k W' v1 v2 v3 v4 ao co af cf := by
 have hN' : ∀ x, N x → (S x ∨ D x) ∨ W.heap.size ≤ x := fun x hx => (hN x hx).elim (fun h1 => .inl (.inr h1)) .inr
 have nS : ∀ x, S x → ¬ N x := fun x hx hn => (hN x hn).elim (h.apart x hx) (fun l => by have := h.lt x (.inl hx); omega)
 refine ⟨c.blk h.box (nS g h.own), h.lst.to c hN' (fun x e => .inl e), h.loc.to c hN' (fun x e => .inl e), h.set.to c hN' (fun x e => .inl e), h.res.to c hN' (fun x e => .inl e), h.ops.step (fun x hx hl => c.same x hl (nS x hx)), h.frs.step (fun x hx hl => c.same x hl ?_), h.own, fun x hx => Nat.lt_of_lt_of_le (h.lt x hx) c.size, h.apart, ?_⟩
 rotate_left
 ·obtain ⟨B, b1, b2, b3⟩ := h.tab
  exact ⟨B, b1, Nat.le_trans b2 c.size, b3.on (Af5 c b2 (fun x hx => (hN' x hx).elim (b1 x) (fun l => by omega)))⟩
 rcases hx with hx | hx
 ·exact nS x hx
 ·exact fun hn => (hN' x hn).elim hx (fun l => by omega)
theorem StV.below (h : StV D S g k W v1 v2 v3 v4 ao co af cf) (hb : Below W.heap.size W W') : StV D S g k W' v1 v2 v3 v4 ao co af cf := h.chg (Chg.of_below hb (fun _ => False)) (fun _ e => e.elim)
theorem StV.out (h : StV D S g k W v1 v2 v3 v4 ao co af cf) (c : Chg S W W') (hS : ∀ x, S x → S' x) (hG : ∀ x, S' x → S x ∨ W.heap.size ≤ x) (hlt : ∀ x, S' x → x < W'.heap.size) (e1 : k'.l = k.l) (e2 : k'.locals = k.locals) (e3 : k'.results = k.results)
  (hs : LK Kd.bool (fun x => S' x ∨ D x) W' v3' k'.sets)
  (box : W'.heap[g]? = some (.cells #[.bool true, v1, v2, v3', v4, .slice ao' k'.ops.length co', .slice af' k'.frames.length cf'] 102 (0, 0))) (ops : CR 3 39 S' W' ao' co' (k'.ops.map cVT)) (frs : FmR S' (fun x => ¬ (S' x ∨ D x)) W' af' cf' k'.frames) : StV D S' g k' W' v1 v2 v3' v4 ao' co' af' cf' := by
 have hN : ∀ x, S x → (S x ∨ D x) ∨ W.heap.size ≤ x := fun x hx => .inl (.inl hx)
 have hS' : ∀ x, S' x ∨ D x → (S x ∨ D x) ∨ W.heap.size ≤ x := fun x hx => hx.elim (fun e => (hG x e).elim (fun a => .inl (.inl a)) .inr) (fun e => .inl (.inr e))
 refine ⟨box, by rw [e1]; exact h.lst.to c hN hS', by rw [e2]; exact h.loc.to c hN hS', hs, by rw [e3]; exact h.res.to c hN hS', ops, frs, hS g h.own, fun x hx => hx.elim (hlt x) (fun e => Nat.lt_of_lt_of_le (h.lt x (.inr e)) c.size), fun x hx hd => (hG x hx).elim (fun a => h.apart x a hd) (fun l => by have := h.lt x (.inr hd); omega), ?_⟩
 obtain ⟨B, b1, b2, b3⟩ := h.tab
 exact ⟨B, fun x hx => (hS' x hx).elim (b1 x) (fun l => by omega), Nat.le_trans b2 c.size, b3.on (Af5 c b2 (fun x hx => b1 x (.inl hx)))⟩
theorem StV.frs_step (h : StV D S g k W v1 v2 v3 v4 ao co af cf) (c : Chg N W W') (hN : ∀ x, N x → S x) (hT : ∀ x, some x = af.map (·.block) → ¬ N x) (hS : ∀ x, S x → S' x) (hG : ∀ x, S' x → S x ∨ W.heap.size ≤ x) : FmR S' (fun x => ¬ (S' x ∨ D x)) W' af cf k.frames := by
 have hb : ∀ x, some x = af.map (·.block) → S x := fun x hx => by
  obtain ⟨rows, _, hr, _⟩ := h.frs
  exact (hr.blk x hx).1
 have h1 : FmR (fun x => some x = af.map (·.block)) (fun x => ¬ (S x ∨ D x) ∧ x < W.heap.size) W af cf k.frames := h.frs.tight.mono (fun _ e => e) (fun x e l => ⟨e, l⟩)
 refine (h1.step (fun x hx hl => c.same x hl ?_)).mono (fun x hx => hS x (hb x hx)) (fun x hx _ e => ?_)
 ·rcases hx with hx | hx
  ·exact hT x hx
  ·exact fun hn => hx.1 (.inl (hN x hn))
 ·exact e.elim (fun e => (hG x e).elim (fun a => hx.1 (.inl a)) (fun l => by have := hx.2; omega)) (fun e => hx.1 (.inr e))
theorem StV.ops_step (h : StV D S g k W v1 v2 v3 v4 ao co af cf) (c : Chg N W W') (hT : ∀ x, some x = ao.map (·.block) → ¬ N x) (hS : ∀ x, S x → S' x) : CR 3 39 S' W' ao co (k.ops.map cVT) :=
 (h.ops.tight.step (fun x hx hl => c.same x hl (hT x hx))).mono (fun x hx => hS x (h.ops.blk x hx).1)
theorem StV.af_ne (h : StV D S g k W v1 v2 v3 v4 ao co af cf) : ∀ x, some x = af.map (·.block) → x ≠ g ∧ some x ≠ ao.map (·.block) := by
 obtain ⟨rows, _, hr, _⟩ := h.frs
 intro x hx
 refine ⟨fun e => hr.ne h.box (by decide) (by rw [← e]; exact hx), fun e => ?_⟩
 obtain ⟨_, _, cs, h1⟩ := h.ops.blk x e
 exact hr.ne h1 (by decide) hx
theorem St.tab (h : St D S g k W) : Lib.TabBelow Tryz.prog W.heap.size W "internal/strconv.uint64pow10" .u64 Lib.pow10Tab := by
 obtain ⟨_, _, _, _, _, _, _, _, h⟩ := h
 obtain ⟨B, b1, b2, b3⟩ := h.tab
 exact fun w' hb => b3 w' ⟨hb.os, hb.tape, hb.output, hb.size, fun x hx => hb.block x (Nat.lt_of_lt_of_le hx b2)⟩
theorem St.lt (h : St D S g k W) : ∀ x, S x ∨ D x → x < W.heap.size := by
 obtain ⟨_, _, _, _, _, _, _, _, h⟩ := h
 exact h.lt
theorem StV.ao_ne (h : StV D S g k W v1 v2 v3 v4 ao co af cf) : ∀ x, some x = ao.map (·.block) → x ≠ g := fun x hx e => h.ops.ne h.box (by decide) (by rw [← e]; exact hx)
structure Kst (D S : Nat → Prop) (g : Nat) (w : World) (k' : Chk) (S' : Nat → Prop) (w' : World) : Prop where
 sub : ∀ x, S x → S' x
 grow : ∀ x, S' x → S x ∨ w.heap.size ≤ x
 st : St D S' g k' w'
 chg : Chg S w w'
theorem Kst.refl (h : St D S g k W) : Kst D S g W k S W := ⟨fun _ e => e, fun _ e => .inl e, h, Chg.refl S W⟩
theorem Kst.trans {w w1 w2 : World} {S1 S2 : Nat → Prop} {k1 k2 : Chk} (a : Kst D S g w k1 S1 w1) (b : Kst D S1 g w1 k2 S2 w2) : Kst D S g w k2 S2 w2 :=
 ⟨fun x e => b.sub x (a.sub x e), fun x e => (b.grow x e).elim (a.grow x) (fun l => .inr (Nat.le_trans a.chg.size l)), b.st, a.chg.trans b.chg (fun _ e => .inl e) a.grow⟩
theorem St.below (h : St D S g k W) (hb : Below W.heap.size W W') : St D S g k W' := by
 obtain ⟨v1, v2, v3, v4, ao, co, af, cf, h⟩ := h
 exact ⟨v1, v2, v3, v4, ao, co, af, cf, h.below hb⟩
theorem Kst.below {w w1 w2 : World} {S1 : Nat → Prop} {k1 : Chk} (a : Kst D S g w k1 S1 w1) (hb : Below w1.heap.size w1 w2) : Kst D S g w k1 S1 w2 :=
 a.trans ⟨fun _ e => e, fun _ e => .inl e, a.st.below hb, Chg.of_below hb _⟩
theorem Kst.ahead {w0 w w1 : World} {S1 : Nat → Prop} {k1 : Chk} (hb : Below w0.heap.size w0 w) (a : Kst D S g w k1 S1 w1) : Kst D S g w0 k1 S1 w1 :=
 ⟨a.sub, fun x e => (a.grow x e).imp id (fun l => Nat.le_trans hb.size l), a.st, (Chg.of_below hb (fun _ => False)).trans a.chg (fun _ e => e.elim) (fun _ e => .inl e)⟩
theorem StV.more {p : Nat} (h : StV D S g k W v1 v2 v3 v4 ao co af cf) (hb : Below W.heap.size W W') (hp : W.heap.size ≤ p) (hp1 : p < W'.heap.size) : StV (fun x => D x ∨ x = p) S g k W' v1 v2 v3 v4 ao co af cf := by
 have c := Chg.of_below hb (fun _ => False)
 have hN : ∀ x, False → (S x ∨ D x) ∨ W.heap.size ≤ x := fun _ e => e.elim
 have hS : ∀ x, S x ∨ (D x ∨ x = p) → (S x ∨ D x) ∨ W.heap.size ≤ x := fun x e => e.elim (fun e => .inl (.inl e)) (fun e => e.elim (fun e => .inl (.inr e)) (fun e => .inr (by omega)))
 refine ⟨Aa3 h.box hb, h.lst.to c hN hS, h.loc.to c hN hS, h.set.to c hN hS, h.res.to c hN hS, h.ops.step (fun x _ hl => hb.block x hl), ?_, h.own, fun x e => ?_, fun x e => ?_, ?_⟩
 ·exact (h.frs.mono (sh' := fun x => ¬ (S x ∨ D x) ∧ x < W.heap.size) (fun _ e => e) (fun x e l => ⟨e, l⟩)).step (fun x _ hl => hb.block x hl) |>.mono (fun _ e => e) (fun x e _ e2 => (hS x e2).elim e.1 (fun l => by have := e.2; omega))
 ·exact (hS x e).elim (fun e => Nat.lt_of_lt_of_le (h.lt x e) hb.size) (fun l => e.elim (fun e => Nat.lt_of_lt_of_le (h.lt x (.inl e)) hb.size) (fun e => e.elim (fun e => Nat.lt_of_lt_of_le (h.lt x (.inr e)) hb.size) (fun e => by omega)))
 ·exact fun e2 => e2.elim (h.apart x e) (fun e3 => by have := h.lt x (.inl e); omega)
 ·obtain ⟨B, b1, b2, b3⟩ := h.tab
  exact ⟨B, fun x e => (hS x e).elim (b1 x) (fun l => by omega), Nat.le_trans b2 hb.size, b3.on ⟨hb.os, hb.tape, hb.output, hb.size, fun x hx => hb.block x (by omega)⟩⟩
theorem St.more {p : Nat} (h : St D S g k W) (hb : Below W.heap.size W W') (hp : W.heap.size ≤ p) (hp1 : p < W'.heap.size) : St (fun x => D x ∨ x = p) S g k W' := by
 obtain ⟨v1, v2, v3, v4, ao, co, af, cf, h⟩ := h
 exact ⟨v1, v2, v3, v4, ao, co, af, cf, h.more hb hp hp1⟩
theorem StV.less {D' : Nat → Prop} (h : StV D' S g k W v1 v2 v3 v4 ao co af cf) (hD : ∀ x, D x → D' x) : StV D S g k W v1 v2 v3 v4 ao co af cf := by
 have hS : ∀ x, S x ∨ D x → S x ∨ D' x := fun x e => e.imp id (hD x)
 refine ⟨h.box, h.lst.mono hS, h.loc.mono hS, h.set.mono hS, h.res.mono hS, h.ops, h.frs.mono (fun _ e => e) (fun x e _ e2 => e (hS x e2)), h.own, fun x e => h.lt x (hS x e), fun x e d => h.apart x e (hD x d), ?_⟩
 obtain ⟨B, b1, b2, b3⟩ := h.tab
 exact ⟨B, fun x e => b1 x (hS x e), b2, b3⟩
theorem St.less {D' : Nat → Prop} (h : St D' S g k W) (hD : ∀ x, D x → D' x) : St D S g k W := by
 obtain ⟨v1, v2, v3, v4, ao, co, af, cf, h⟩ := h
 exact ⟨v1, v2, v3, v4, ao, co, af, cf, h.less hD⟩
theorem St.chg {N : Nat → Prop} (h : St D S g k W) (c : Chg N W W') (hN : ∀ x, N x → D x ∨ W.heap.size ≤ x) : St D S g k W' := by
 obtain ⟨v1, v2, v3, v4, ao, co, af, cf, h⟩ := h
 exact ⟨v1, v2, v3, v4, ao, co, af, cf, h.chg c hN⟩
theorem LK.kst {α : Type} {d : Kd α} {w w' : World} {v : Value} {xs : List α} (h : LK d (fun x => S x ∨ D x) w v xs) (q : Kst D S g w k' S' w') : LK d (fun x => S' x ∨ D x) w' v xs :=
 h.to q.chg (fun x e => .inl (.inl e)) (fun x e => e.elim (fun e => (q.grow x e).imp .inl id) (fun e => .inl (.inr e)))
def KG (D S : Nat → Prop) (g : Nat) (v1 v2 v3 v4 : Value) (af : Option Addr) (cf : Nat) (C : Option Addr → Nat → Prop) (k' : Chk) (w w' : World) : Prop :=
 ∃ S' ao' co', (∀ x, S x → S' x) ∧ (∀ x, S' x → S x ∨ w.heap.size ≤ x) ∧ StV D S' g k' w' v1 v2 v3 v4 ao' co' af cf ∧ Chg (fun x => x = g) w w' ∧ C ao' co'
theorem KG.kst {w w' : World} {C : Option Addr → Nat → Prop} (hg : S g) (h : KG D S g v1 v2 v3 v4 af cf C k' w w') : ∃ S', Kst D S g w k' S' w' := by
 obtain ⟨S', ao', co', h1, h2, h3, h4, _⟩ := h
 exact ⟨S', h1, h2, ⟨_, _, _, _, _, _, _, _, h3⟩, h4.mono (fun x e => .inl (by rw [e]; exact hg))⟩
theorem KG.cell {p : Nat} {w0 w w1 w2 : World} {S1 N : Nat → Prop} {C : Option Addr → Nat → Prop} (hb : Below w0.heap.size w0 w) (hp : w0.heap.size ≤ p) (h : StV (fun x => D x ∨ x = p) S1 g k' w1 v1 v2 v3 v4 ao' co' af cf) (h1 : ∀ x, S x → S1 x) (h2 : ∀ x, S1 x → S x ∨ w.heap.size ≤ x) (hc : Chg (fun x => x = g) w w1) (c : Chg N w1 w2) (hN : ∀ x, N x → x = p) (hC : C ao' co') : KG D S g v1 v2 v3 v4 af cf C k' w0 w2 := by
 refine ⟨S1, ao', co', h1, fun x e => (h2 x e).imp id (fun l => Nat.le_trans hb.size l), (h.chg c (fun x e => .inl (.inr (hN x e)))).less (fun x e => .inl e), ?_, hC⟩
 exact ((Chg.of_below hb (fun _ => False)).trans (K := fun x => x = g) hc (fun _ e => e.elim) (fun _ e => .inl e)).trans c (fun _ e => .inl e) (fun x e => .inr (by rw [hN x e]; exact hp))
def KOut (D S : Nat → Prop) (g : Nat) (k' : Chk) (val : Value) (w : World) (e : Ending) (w' : World) : Prop := e = .returned val ∧ ∃ S', Kst D S g w k' S' w'
end
end Go.Proofs.YtohlmkcgempdlaaGreatDoor.Cn
