/- Parts of the proof of vctlDead_holds (16 of 24): what it says and shows stands at its declarations. -/
import Derived.Test.YtohlmkcgempdlaaGreatDoorZVd15
import Derived.LoopTactic
namespace Go.Proofs.YtohlmkcgempdlaaGreatDoor.Cn
set_option linter.unusedSimpArgs false
set_option maxRecDepth 100000
set_option linter.unusedVariables false
open Go.RowKit Go.Maps Go.Proofs.YtohlmkcgempdlaaGreatDoorW.PrintWords Go.Proofs.YtohlmkcgempdlaaGreatDoorW.PrintLast Go.Proofs.YtohlmkcgempdlaaGreatDoorW.PrintMore Go.Proofs.YtohlmkcgempdlaaGreatDoor.QD
theorem CR.head {sz e : Nat} {ok : Nat → Prop} {W : World} {A : Option Addr} {c : Nat} {xs : List (List Value)} (h : CR sz e ok W A c xs) (hx : xs ≠ []) : ∃ b cells, A = some ⟨b, 0, none⟩ ∧ W.heap[b]? = some (.cells cells e (0, 0)) := by
 obtain ⟨ys, c0, h1, h2, h3⟩ := h
 cases A with
 | none =>
  obtain ⟨_, inner, ho, hr⟩ := h1
  rcases ho.2 with ⟨hv, _⟩ | ⟨g, cap, cur, hv, _⟩
  ·injection hv with _ hn hc
   have hy : ys = [] := List.eq_nil_of_length_eq_zero hn
   subst hy
   exact absurd (by rw [h2]; simp) hx
  ·injection hv with hv
   cases hv
 | some ad =>
  obtain ⟨b, rfl⟩ := Kd.R_head h1
  obtain ⟨cells, hc⟩ := Kd.R_typed h1 b rfl
  exact ⟨b, cells, rfl, hc⟩
theorem CR.at0 {sz e : Nat} {ok : Nat → Prop} {W : World} {A : Option Addr} {c : Nat} {xs : List (List Value)} (h : CR sz e ok W A c xs) {i : Nat} {cs : List Value} (hi : xs[i]? = some cs) : ∃ b cells, A = some ⟨b, 0, none⟩ ∧ W.heap[b]? = some (.cells cells e (0, 0)) ∧ ∀ j u, cs[j]? = some u → W.cell? ⟨b, i * sz + j, none⟩ = some u := by
 obtain ⟨b, cells, rfl, hc⟩ := h.head (by intro e; rw [e] at hi; cases hi)
 refine ⟨b, cells, rfl, hc, fun j u hj => ?_⟩
 obtain ⟨ad, e1, h1⟩ := h.cell hi hj
 injection e1 with e1
 subst e1
 rw [Addr.add_lit, Nat.zero_add] at h1
 exact h1
/-- A frame's cells. -/
structure FrAt (sh : Nat → Prop) (W : World) (b o : Nat) (x : Fr) (A1 : Option Addr) (c1 : Nat) (A2 : Option Addr) (c2 : Nat) (A4 : Option Addr) (c4 : Nat) : Prop where
 op : W.cell? ⟨b, o, none⟩ = some (.int .i64 x.op)
 ins : W.cell? ⟨b, o + 1, none⟩ = some (.slice A1 x.ins.length c1)
 outs : W.cell? ⟨b, o + 2, none⟩ = some (.slice A2 x.outs.length c2)
 height : W.cell? ⟨b, o + 3, none⟩ = some (.int .i64 x.height)
 sets : W.cell? ⟨b, o + 4, none⟩ = some (.slice A4 x.sets.length c4)
 dead : W.cell? ⟨b, o + 5, none⟩ = some (.bool x.dead)
 f1 : x.ins.length ≤ c1 ∧ Kd.F k39 W sh A1 x.ins.length x.ins
 f2 : x.outs.length ≤ c2 ∧ Kd.F k39 W sh A2 x.outs.length x.outs
 f4 : x.sets.length ≤ c4 ∧ Kd.F Kd.bool W sh A4 x.sets.length x.sets
 blk : ∃ cells, W.heap[b]? = some (.cells cells 105 (0, 0))
theorem FmR.at {ok sh : Nat → Prop} {W : World} {A : Option Addr} {c : Nat} {xs : List Fr} (h : FmR ok sh W A c xs) {i : Nat} {x : Fr} (hx : xs[i]? = some x) : ∃ b A1 c1 A2 c2 A4 c4, A = some ⟨b, 0, none⟩ ∧ FrAt sh W b (i * 6) x A1 c1 A2 c2 A4 c4 := by
 obtain ⟨rows, hl, hr, hf⟩ := h
 have hil := (List.getElem?_eq_some_iff.1 hx).1
 have hi : rows[i]? = some rows[i] := List.getElem?_eq_getElem (by omega)
 obtain ⟨b, cells, rfl, hc, hcell⟩ := hr.at0 hi
 obtain ⟨A1, c1, A2, c2, A4, c4, e1, l1, g1, l2, g2, l4, g4⟩ := k105_openF (hf i x _ hx hi)
 rw [e1] at hcell
 exact ⟨b, A1, c1, A2, c2, A4, c4, rfl, hcell 0 _ rfl, hcell 1 _ rfl, hcell 2 _ rfl, hcell 3 _ rfl, hcell 4 _ rfl, hcell 5 _ rfl, ⟨l1, g1⟩, ⟨l2, g2⟩, ⟨l4, g4⟩, cells, hc⟩
theorem FrAt.lk1 {S : Nat → Prop} {W : World} {b o : Nat} {x : Fr} {A1 : Option Addr} {c1 : Nat} {A2 : Option Addr} {c2 : Nat} {A4 : Option Addr} {c4 : Nat} (h : FrAt (fun k => ¬ S k) W b o x A1 c1 A2 c2 A4 c4) : LK k39 S W (.slice A1 x.ins.length c1) x.ins := LK.mk h.f1.1 h.f1.2
theorem FrAt.lk2 {S : Nat → Prop} {W : World} {b o : Nat} {x : Fr} {A1 : Option Addr} {c1 : Nat} {A2 : Option Addr} {c2 : Nat} {A4 : Option Addr} {c4 : Nat} (h : FrAt (fun k => ¬ S k) W b o x A1 c1 A2 c2 A4 c4) : LK k39 S W (.slice A2 x.outs.length c2) x.outs := LK.mk h.f2.1 h.f2.2
section
variable {D S : Nat → Prop} {g : Nat} {k : Chk} {W : World} {v1 v2 v3 v4 : Value} {ao : Option Addr} {co : Nat} {af : Option Addr} {cf : Nat}
theorem StV.c0 (h : StV D S g k W v1 v2 v3 v4 ao co af cf) : W.cell? ⟨g, 0, none⟩ = some (.bool true) := (blk_cell h.box 0).trans rfl
theorem StV.c1 (h : StV D S g k W v1 v2 v3 v4 ao co af cf) : W.cell? ⟨g, 1, none⟩ = some v1 := (blk_cell h.box 1).trans rfl
theorem StV.c3 (h : StV D S g k W v1 v2 v3 v4 ao co af cf) : W.cell? ⟨g, 3, none⟩ = some v3 := (blk_cell h.box 3).trans rfl
theorem StV.c4 (h : StV D S g k W v1 v2 v3 v4 ao co af cf) : W.cell? ⟨g, 4, none⟩ = some v4 := (blk_cell h.box 4).trans rfl
theorem StV.c5 (h : StV D S g k W v1 v2 v3 v4 ao co af cf) : W.cell? ⟨g, 5, none⟩ = some (.slice ao k.ops.length co) := (blk_cell h.box 5).trans rfl
theorem StV.c6 (h : StV D S g k W v1 v2 v3 v4 ao co af cf) : W.cell? ⟨g, 6, none⟩ = some (.slice af k.frames.length cf) := (blk_cell h.box 6).trans rfl
theorem StV.co_le (h : StV D S g k W v1 v2 v3 v4 ao co af cf) : k.ops.length ≤ co := by have := h.ops.reads.1; rwa [List.length_map] at this
theorem StV.oplk (h : StV D S g k W v1 v2 v3 v4 ao co af cf) : LK k39 (fun x => ¬ some x = ao.map (·.block)) W (.slice ao k.ops.length co) k.ops := by
 refine LK.mk h.co_le (fun W' hW => ?_)
 have h1 := (h.ops.tight.step (W' := W') (fun x hx hl => hW x (fun e => e hx) hl)).reads.2
 rw [List.length_map] at h1
 obtain ⟨a1, a2, a3⟩ := h1
 refine ⟨rfl, a2, fun hp => ?_⟩
 obtain ⟨ad, e1, hc⟩ := a3 hp
 refine ⟨ad, e1, fun j p hj => ?_⟩
 obtain ⟨c, h3, ⟨rfl, _⟩, h5⟩ := hc j (cVT p) (by rw [List.getElem?_map, hj]; rfl)
 exact ⟨_, rfl, k39_mk W' p, h5⟩
end
/-- What a list that was made holds. -/
def LOut {α : Type} (d : Kd α) (S : Nat → Prop) (xs : List α) (w : World) (e : Ending) (w' : World) : Prop := ∃ v, e = .returned v ∧ LK d S w' v xs ∧ Below w.heap.size w w'
/-- A list that was copied: it is full. -/
def LFull (S : Nat → Prop) (xs : List S39) (w : World) (e : Ending) (w' : World) : Prop := ∃ A, e = .returned (.slice A xs.length xs.length) ∧ LK k39 S w' (.slice A xs.length xs.length) xs ∧ Below w.heap.size w w'
theorem kCopVT_lfull {S S' : Nat → Prop} {v : Value} {xs : List S39} {w : World} (h : LK k39 S w v xs) (hl : xs.length ≤ 1099511627776) (hS : ∀ x, S' x → x < w.heap.size) : Calls Tryz.prog 50 #[v] w (LFull S' xs w) := by
 obtain ⟨A, c, rfl⟩ := h.slice
 refine (kCopVT_full S A c xs w h hl).mono (fun e w' h => ?_)
 obtain ⟨A1, rows, e1, hl, hr, hf, hb⟩ := h
 have hf' : ∀ (j : Nat) (x : S39) (c : List Value), xs[j]? = some x → rows[j]? = some c → Kd.FK k39 w' (fun k => ¬ S' k) x c := fun j x c hx hc W' hW => by
  have h1 := k39_open (Kd.FK_now (hf j x c hx hc))
  rw [h1]
  exact k39_mk W' x
 exact ⟨A1, e1, lk_of_rows hl hr hf' hS, hb⟩
theorem kCopVT_out {S S' : Nat → Prop} {v : Value} {xs : List S39} {w : World} (h : LK k39 S w v xs) (hl : xs.length ≤ 1099511627776) (hS : ∀ x, S' x → x < w.heap.size) : Calls Tryz.prog 50 #[v] w (LOut k39 S' xs w) :=
 (kCopVT_lfull h hl hS).mono (fun e w' ⟨A, e1, h1, h2⟩ => ⟨_, e1, h1, h2⟩)
theorem kCopBool_out {S S' : Nat → Prop} {v : Value} {xs : List Bool} {w : World} (h : LK Kd.bool S w v xs) (hl : xs.length ≤ 1099511627776) (hS : ∀ x, S' x → x < w.heap.size) : Calls Tryz.prog 66 #[v] w (LOut Kd.bool S' xs w) := by
 obtain ⟨A, c, rfl⟩ := h.slice
 refine (kCopBool_calls S A c xs w h hl).mono (fun e w' h => ?_)
 obtain ⟨v, rows, e1, hl, hr, hf, hb⟩ := h
 exact ⟨v, e1, lk_of_rows hl hr (fun j x c hx hc W2 hW => show c = [.bool x] from Kd.FK_now (hf j x c hx hc)) hS, hb⟩
def labM (fs : List Fr) (n : Nat) : Int × List S39 := if h : n < fs.length then (0, if (fs[fs.length - 1 - n]).op = 3 then (fs[fs.length - 1 - n]).ins else (fs[fs.length - 1 - n]).outs) else (133, [])
section
variable {D S : Nat → Prop} {g : Nat} {k : Chk} {w : World}
theorem kResults_calls (h : St D S g k w) (hl : k.results.length ≤ 1099511627776) : Calls Tryz.prog 127 #[.pointer (some ⟨g, 0, none⟩)] w (LOut k39 (fun x => S x ∨ D x) k.results w) := by
 obtain ⟨v1, v2, v3, v4, ao, co, af, cf, h⟩ := h
 have K0 := kNone_calls g w h.c0
 have K1 := kCopVT_out (S' := fun x => S x ∨ D x) h.res hl h.lt
 have c4 := h.c4
 clear h hl
 go_enter Tryz.func127, Tryz.ntmps127
 go_wp2_with fail
 refine K0.mono ?_
 rintro e w1 ⟨rfl, rfl⟩
 go_wp2_with fail
 refine K1.mono ?_
 rintro e w1 ⟨v, rfl, h2, h3⟩
 have H := Aside0.mk (And.intro h2 h3)
 clear h2 h3 K0 K1
 go_wp2_with fail
 go_ret
 exact ⟨v, rfl, H.out.1, H.out.2⟩
theorem kOperands_calls (h : St D S g k w) (hl : k.ops.length ≤ 1099511627776) : Calls Tryz.prog 17 #[.pointer (some ⟨g, 0, none⟩)] w (LOut k39 (fun x => S x ∨ D x) k.ops w) := by
 obtain ⟨v1, v2, v3, v4, ao, co, af, cf, h⟩ := h
 have K0 := kNone_calls g w h.c0
 have K1 := kCopVT_out (S' := fun x => S x ∨ D x) h.oplk hl h.lt
 have c5 := h.c5
 clear h hl
 go_enter Tryz.func17, Tryz.ntmps17
 go_wp2_with fail
 refine K0.mono ?_
 rintro e w1 ⟨rfl, rfl⟩
 go_wp2_with fail
 refine K1.mono ?_
 rintro e w1 ⟨v, rfl, h2, h3⟩
 have H := Aside0.mk (And.intro h2 h3)
 clear h2 h3 K0 K1
 go_wp2_with fail
 go_ret
 exact ⟨v, rfl, H.out.1, H.out.2⟩
theorem kHeight_calls (h : St D S g k w) : Calls Tryz.prog 38 #[.pointer (some ⟨g, 0, none⟩)] w fun e w' => e = .returned (.int .i64 k.ops.length) ∧ w' = w := by
 obtain ⟨v1, v2, v3, v4, ao, co, af, cf, h⟩ := h
 have K0 := kNone_calls g w h.c0
 have K1 := kvSize_calls g 5 ao k.ops.length co w h.c5
 clear h
 go_enter Tryz.func38, Tryz.ntmps38
 go_wp2_with fail
 refine K0.mono ?_
 rintro e w1 ⟨rfl, rfl⟩
 go_wp2_with fail
 refine K1.mono ?_
 rintro e w1 ⟨rfl, rfl⟩
 go_wp2_with fail
 go_ret
 exact ⟨rfl, rfl⟩
/-- The top of the frames. -/
theorem kfTop_out {b : Nat} {j m c : Nat} (h : w.cell? ⟨g, j, none⟩ = some (.slice (some ⟨b, 0, none⟩) (m + 1) c)) (hm : m + 1 ≤ 9223372036854775807) : Calls Tryz.prog 43 #[.pointer (some ⟨g, j, none⟩)] w fun e w' => e = .returned (.pointer (some ⟨b, m * 6, none⟩)) ∧ Below w.heap.size w w' := by
 have h1 := kfTop_calls g j ⟨b, 0, none⟩ m c w h hm
 rw [Addr.add_lit, Nat.zero_add] at h1
 exact h1
theorem kvTop_out {b : Nat} {j m c : Nat} (h : w.cell? ⟨g, j, none⟩ = some (.slice (some ⟨b, 0, none⟩) (m + 1) c)) (hm : m + 1 ≤ 9223372036854775807) : Calls Tryz.prog 118 #[.pointer (some ⟨g, j, none⟩)] w fun e w' => e = .returned (.pointer (some ⟨b, m * 3, none⟩)) ∧ Below w.heap.size w w' := by
 have h1 := kvTop_calls g j ⟨b, 0, none⟩ m c w h hm
 rw [Addr.add_lit, Nat.zero_add] at h1
 exact h1
/-- The last frame. -/
theorem StV.top {v1 v2 v3 v4 : Value} {ao : Option Addr} {co : Nat} {af : Option Addr} {cf : Nat} (h : StV D S g k w v1 v2 v3 v4 ao co af cf) {f : Fr} (hf : k.frames[k.frames.length - 1]? = some f) : ∃ b m A1 c1 A2 c2 A4 c4, af = some ⟨b, 0, none⟩ ∧ k.frames.length = m + 1 ∧ FrAt (fun x => ¬ (S x ∨ D x)) w b (m * 6) f A1 c1 A2 c2 A4 c4 ∧ S b ∧ b ≠ g := by
 have hl := (List.getElem?_eq_some_iff.1 hf).1
 obtain ⟨b, A1, c1, A2, c2, A4, c4, e1, ha⟩ := h.frs.at hf
 subst e1
 obtain ⟨m, hm⟩ : ∃ m, k.frames.length = m + 1 := ⟨k.frames.length - 1, by omega⟩
 rw [hm, Nat.add_sub_cancel] at ha
 obtain ⟨rows, _, hr, _⟩ := h.frs
 exact ⟨b, m, A1, c1, A2, c2, A4, c4, rfl, hm, ha, (hr.blk b rfl).1, (h.af_ne b rfl).1⟩
theorem St.top (h : St D S g k w) {f : Fr} (hf : k.frames[k.frames.length - 1]? = some f) : ∃ v1 v2 v3 v4 ao co b cf m A1 c1 A2 c2 A4 c4, StV D S g k w v1 v2 v3 v4 ao co (some ⟨b, 0, none⟩) cf ∧ k.frames.length = m + 1 ∧ FrAt (fun x => ¬ (S x ∨ D x)) w b (m * 6) f A1 c1 A2 c2 A4 c4 ∧ S b ∧ b ≠ g := by
 obtain ⟨v1, v2, v3, v4, ao, co, af, cf, h⟩ := h
 have hl := (List.getElem?_eq_some_iff.1 hf).1
 obtain ⟨b, A1, c1, A2, c2, A4, c4, e1, ha⟩ := h.frs.at hf
 subst e1
 obtain ⟨m, hm⟩ : ∃ m, k.frames.length = m + 1 := ⟨k.frames.length - 1, by omega⟩
 rw [hm, Nat.add_sub_cancel] at ha
 obtain ⟨rows, _, hr, _⟩ := h.frs
 exact ⟨v1, v2, v3, v4, ao, co, b, cf, m, A1, c1, A2, c2, A4, c4, h, hm, ha, (hr.blk b rfl).1, (h.af_ne b rfl).1⟩
end
section
variable {D S : Nat → Prop} {g : Nat} {k : Chk} {w : World}
theorem rd_VT_k {l : List S39} {j : Nat} {x : S39} (h : l[j]? = some x) : rd_T39 l (j : Int) = x := by
 simp [rd_T39, List.getD_eq_getElem?_getD, h]
theorem vt_at {A : Option Addr} {n : Nat} {l : List S39} (h : Kd.C k39 w A n l) {j : Nat} {x : S39} (hj : l[j]? = some x) : ∃ ad, A = some ad ∧ w.cell? (ad.add (j * 3)) = some (.int .i64 x.f0) ∧ w.cell? ⟨(ad.add (j * 3)).block, (ad.add (j * 3)).off + 1, none⟩ = some (.bool x.f1) ∧ w.cell? ⟨(ad.add (j * 3)).block, (ad.add (j * 3)).off + 2, none⟩ = some (.int .i64 x.f2) := by
 have hl := (List.getElem?_eq_some_iff.1 hj).1
 have := h.1
 have h1 := at_T39 h (j : Int) (by omega) (by omega)
 rw [rd_VT_k hj] at h1
 exact h1
theorem St.shut (h : St D S g k w) (hn : 0 < k.frames.length) : Calls Tryz.prog 42 #[.pointer (some ⟨g, 0, none⟩)] w fun e w' => e = .returned (.int .i64 0) ∧ w' = w := by
 obtain ⟨v1, v2, v3, v4, ao, co, af, cf, h⟩ := h
 exact kShut_calls g af _ cf w h.c0 h.c6 hn
/-- One operand more. -/
theorem StV.push {x : S39} {w' : World} {e : Ending} {v1 v2 v3 v4 : Value} {ao : Option Addr} {co : Nat} {af : Option Addr} {cf : Nat} (h : StV D S g k w v1 v2 v3 v4 ao co af cf) (hp : PushOut 3 39 S g 5 #[.bool true, v1, v2, v3, v4, .slice ao k.ops.length co, .slice af k.frames.length cf] 102 ao (k.ops.map cVT) (cVT x) co w e w') :
  e = .returned (.tuple #[]) ∧ ∃ S' ao' co', (∀ x, S x → S' x) ∧ (∀ x, S' x → S x ∨ w.heap.size ≤ x) ∧ StV D S' g { k with ops := k.ops ++ [x] } w' v1 v2 v3 v4 ao' co' af cf ∧ Chg (fun y => y = g ∨ some y = ao.map (·.block) ∧ k.ops.length ≠ co) w w' := by
 obtain ⟨A', c', rfl, hcr, hbox, hch⟩ := hp
 rw [List.length_map] at hch
 have hc : Chg S w w' := hch.mono (fun x hx => .inl (hx.elim (fun e => e ▸ h.own) (fun e => (h.ops.blk x e.1).1)))
 have hS : ∀ x, S x → (S x ∨ w.heap.size ≤ x ∧ some x = A'.map (·.block)) := fun _ e => .inl e
 have hG : ∀ x, (S x ∨ w.heap.size ≤ x ∧ some x = A'.map (·.block)) → S x ∨ w.heap.size ≤ x := fun x e => e.imp id And.left
 refine ⟨rfl, fun x => S x ∨ w.heap.size ≤ x ∧ some x = A'.map (·.block), A', c', hS, hG, ?_, hch⟩
 refine h.out hc hS hG ?_ rfl rfl rfl (h.set.to hc (fun x e => .inl (.inl e)) (fun x e => e.elim (fun e => e.imp .inl And.left) (fun e => .inl (.inr e)))) ?_ ?_ ?_
 ·intro x hx
  rcases hx with hx | ⟨_, hx⟩
  ·exact Nat.lt_of_lt_of_le (h.lt x (.inl hx)) hc.size
  ·exact (hcr.blk x hx).2.1
 ·rw [hbox]
  simp
 ·have h1 : CR 3 39 (fun x => S x ∨ w.heap.size ≤ x ∧ some x = A'.map (·.block)) w' A' c' (k.ops.map cVT ++ [cVT x]) := hcr.tight.mono (fun y hy => (hcr.blk y hy).1.imp id (fun l => ⟨l, hy⟩))
  simpa using h1
 ·exact h.frs_step hch (fun x hx => hx.elim (fun e => e ▸ h.own) (fun e => (h.ops.blk x e.1).1)) (fun x hx hn => hn.elim (h.af_ne x hx).1 (fun e => (h.af_ne x hx).2 e.1)) hS hG
theorem kvPush_stv {v1 v2 v3 v4 : Value} {ao : Option Addr} {co : Nat} {af : Option Addr} {cf : Nat} (h : StV D S g k w v1 v2 v3 v4 ao co af cf) (x : S39) (hl : k.ops.length ≤ 4294967296) : Calls Tryz.prog 72 #[.pointer (some ⟨g, 5, none⟩), .agg #[.int .i64 x.f0, .bool x.f1, .int .i64 x.f2]] w fun e w' => e = .returned (.tuple #[]) ∧ ∃ S' ao' co', (∀ x, S x → S' x) ∧ (∀ x, S' x → S x ∨ w.heap.size ≤ x) ∧ StV D S' g { k with ops := k.ops ++ [x] } w' v1 v2 v3 v4 ao' co' af cf ∧ Chg (fun y => y = g ∨ some y = ao.map (·.block) ∧ k.ops.length ≠ co) w w' :=
 (kvPush_calls S g 5 _ 102 x ao co _ w h.box (by rw [List.length_map]; simp) h.ops (by decide) (by rw [List.length_map]; exact hl)).mono (fun _ _ hp => h.push hp)
theorem kvPush_st (h : St D S g k w) (x : S39) (hl : k.ops.length ≤ 4294967296) : Calls Tryz.prog 72 #[.pointer (some ⟨g, 5, none⟩), .agg #[.int .i64 x.f0, .bool x.f1, .int .i64 x.f2]] w (KOut D S g { k with ops := k.ops ++ [x] } (.tuple #[]) w) := by
 obtain ⟨v1, v2, v3, v4, ao, co, af, cf, h⟩ := h
 refine (kvPush_stv h x hl).mono ?_
 rintro e w' ⟨rfl, S', ao', co', h1, h2, h3, h4⟩
 exact ⟨rfl, S', h1, h2, ⟨_, _, _, _, _, _, _, _, h3⟩, h4.mono (fun x hx => .inl (hx.elim (fun e => e ▸ h.own) (fun e => (h.ops.blk x e.1).1)))⟩
set_option maxHeartbeats 2000000 in
theorem kPushes_calls (h : St D S g k w) {A : Option Addr} {c : Nat} {l : List S39} (hl : LK k39 (fun x => S x ∨ D x) w (.slice A l.length c) l) (hn : 0 < k.frames.length) (hm : k.ops.length + l.length ≤ 4294967296) :
  Calls Tryz.prog 33 #[.pointer (some ⟨g, 0, none⟩), .slice A l.length c] w (KOut D S g { k with ops := k.ops ++ l } (.int .i64 0) w) := by
 have K0 := h.shut hn
 have Q0 := Aside0.mk (Kst.refl h)
 have HL := Aside0.mk hl
 have HM := Aside0.mk hm
 have hl0 : l.length ≤ 9223372036854775807 := by omega
 obtain ⟨n, hnn⟩ : ∃ n, n = l.length := ⟨_, rfl⟩
 rw [← hnn] at HL hl0 ⊢
 have HN := Aside0.mk hnn
 clear h hl hn hm hnn
 go_enter Tryz.func33, Tryz.ntmps33
 go_wp2_with fail
 refine K0.mono ?_
 rintro e w ⟨rfl, rfl⟩
 clear K0
 go_wp2_with fail
 go_loopw [15] (fun i W => ∃ (j : Nat) (S1 : Nat → Prop), i = .int .i64 j ∧ j ≤ n ∧ Kst D S g w { k with ops := k.ops ++ l.take j } S1 W) (fun i _ => n - (intOf i).toNat)
 case atStart => exact ⟨0, S, rfl, Nat.zero_le _, by simpa using Q0.out⟩
 case round =>
  obtain ⟨j, S1, rfl, hj, hq⟩ := hrel
  have Q := Aside0.mk hq
  clear hq
  by_cases hlt : j < n
  ·obtain ⟨x, hx⟩ : ∃ x, l[j]? = some x := ⟨_, List.getElem?_eq_getElem (by rw [← HN.out]; exact hlt)⟩
   have HX := Aside0.mk hx
   have LW := Aside0.mk (HL.out.kst Q.out)
   obtain ⟨ad, eA, x0, x1, x2⟩ := vt_at LW.out.reads.2.2 hx
   subst eA
   have HLT := Aside0.mk hlt
   have HOL : Aside0 ((k.ops ++ l.take j).length ≤ 4294967296) := ⟨by rw [List.length_append, List.length_take]; have := HM.out; omega⟩
   clear hx
   go_wp2_with fail
   obtain ⟨w5, hw5⟩ : ∃ w5, w5 = World.drew (wr.alloc (.cells #[.int .i64 x.f0, .bool x.f1, .int .i64 x.f2] 39)) := ⟨_, rfl⟩
   have b5 : Below wr.heap.size wr w5 := by rw [hw5]; exact (bz_).drew
   have B5 := Aside0.mk b5
   have hq5 : w5.heap[wr.heap.size]? = some (.cells #[.int .i64 x.f0, .bool x.f1, .int .i64 x.f2] 39 (0, 0)) := by rw [hw5]; exact blk_new wr _
   have z0 : w5.cell? ⟨wr.heap.size, 0, none⟩ = some (.int .i64 x.f0) := (blk_cell hq5 0).trans rfl
   have z1 : w5.cell? ⟨wr.heap.size, 1, none⟩ = some (.bool x.f1) := (blk_cell hq5 1).trans rfl
   have z2 : w5.cell? ⟨wr.heap.size, 2, none⟩ = some (.int .i64 x.f2) := (blk_cell hq5 2).trans rfl
   have S5 := Aside0.mk (Q.out.st.below b5)
   clear b5 hq5
   refine start_ (n := 5) (S := fun w' => w'.cell? ⟨wr.heap.size, 0, none⟩ = some (.int .i64 x.f0) ∧ w'.cell? ⟨wr.heap.size, 1, none⟩ = some (.bool x.f1) ∧ w'.cell? ⟨wr.heap.size, 2, none⟩ = some (.int .i64 x.f2)) (ds := [4]) (bm_ 5 0) (by kernel_rfl) rfl rfl ⟨(by rw [← hw5]; exact z0), (by rw [← hw5]; exact z1), (by rw [← hw5]; exact z2)⟩ (fun hHeld => ?_)
   rw [← hw5] at hHeld ⊢
   clear hw5 z0 z1 z2
   refine pz_ 0 19 5 1 ?_
   refine pz_ 1 20 5 3 ?_
   refine pz_ 2 21 5 7 ?_
   refine tz_ 3 22 5 15 hHeld ?_
   refine lz_ 4 23 5 31 fun K hK => ?_
   refine gz_ Tryz.func72 #[.pointer (some ⟨g, 5, none⟩), .agg #[.int .i64 x.f0, .bool x.f1, .int .i64 x.f2]] ?_
   with_reducible refine (kvPush_st S5.out x HOL.out).mono ?_
   rintro e w6 ⟨rfl, S2, hk⟩
   have Q2 := Aside0.mk (Q.out.trans (Kst.ahead B5.out hk))
   clear hk
   refine ⟨_, rfl, ?_⟩
   refine hK.out _ _ ?_
   clear hK K
   refine nz_ ?_
   refine dz_ ?_

   go_wp2_with fail
   go_roundw
   case rel => exact ⟨j + 1, S2, by go_num, HLT.out, by have h_ := Q2.out; rw [List.take_add_one, HX.out]; simpa using h_⟩
   case measure => have := HLT.out; simp [intOf]; omega
  ·obtain rfl : j = n := by omega
   clear hlt
   go_wp2_with fail
   go_ret
   exact ⟨rfl, S1, by have h_ := Q.out; rw [List.take_of_length_le (by have := HN.out; omega)] at h_; exact h_⟩
end
section
variable {D S : Nat → Prop} {g : Nat} {k : Chk} {w : World}
theorem lk_lit {S : Nat → Prop} (W : World) (x : S39) (hS : ∀ y, S y → y < W.heap.size) : LK k39 S (W.alloc (.cells #[.int .i64 x.f0, .bool x.f1, .int .i64 x.f2] 39)) (.slice (some ⟨W.heap.size, 0, none⟩) 1 1) [x] := by
 have h1 : Kd.R k39 39 (W.alloc (.cells #[.int .i64 x.f0, .bool x.f1, .int .i64 x.f2] 39)) W.heap.size (fun _ => True) (.slice (some ⟨W.heap.size, 0, none⟩) 1 1) [x] :=
  ⟨fun _ _ => trivial, OwnRow.lit (ps := [x]) W W.heap.size (inner := [.int .i64 x.f0, .bool x.f1, .int .i64 x.f2]) ((Reps.none _ _).snoc (k39_mkM _ _ _ x) rfl) (Nat.le_refl _) (by simp)⟩
 exact LK.fresh h1 hS
theorem kPush_calls (h : St D S g k w) (x : S39) (hn : 0 < k.frames.length) (hm : k.ops.length + 1 ≤ 4294967296) :
  Calls Tryz.prog 40 #[.pointer (some ⟨g, 0, none⟩), .agg #[.int .i64 x.f0, .bool x.f1, .int .i64 x.f2]] w (KOut D S g { k with ops := k.ops ++ [x] } (.int .i64 0) w) := by
 have ba : Below w.heap.size w ((w.alloc (.cells #[.int .i64 x.f0, .bool x.f1, .int .i64 x.f2] 39)).alloc (.cells #[.int .i64 x.f0, .bool x.f1, .int .i64 x.f2] 39)) := (bz_).alloc (by simp) _
 have BA := Aside0.mk ba
 have K := kPushes_calls (l := [x]) (c := 1) (h.below ba) (lk_lit (w.alloc (.cells #[.int .i64 x.f0, .bool x.f1, .int .i64 x.f2] 39)) x (fun y hy => by rw [World.size_alloc]; exact Nat.lt_succ_of_lt (h.lt y hy))) hn hm
 rw [World.size_alloc] at K
 clear h hn hm ba
 go_enter Tryz.func40, Tryz.ntmps40
 go_wp2_with fail
 refine K.mono ?_
 rintro e w3 ⟨rfl, S1, hk⟩
 have Q := Aside0.mk (Kst.ahead BA.out hk)
 clear hk K
 go_wp2_with fail
 go_ret
 exact ⟨rfl, S1, Q.out⟩
/-- The operands are cut. -/
theorem StV.cut {v1 v2 v3 v4 : Value} {ao : Option Addr} {co : Nat} {af : Option Addr} {cf : Nat} (h : StV D S g k w v1 v2 v3 v4 ao co af cf) (m : Nat) (hm : m ≤ k.ops.length) : StV D S g { k with ops := k.ops.take m } (w.setCell ⟨g, 5, none⟩ (.slice ao m m)) v1 v2 v3 v4 ao m af cf := by
 have hch := chg_set w g 5 (.slice ao m m)
 have hc : Chg S w (w.setCell ⟨g, 5, none⟩ (.slice ao m m)) := hch.mono (fun x e => .inl (by rw [e]; exact h.own))
 have hl : (k.ops.take m).length = m := by rw [List.length_take]; omega
 refine h.out hc (fun _ e => e) (fun _ e => .inl e) (fun x hx => Nat.lt_of_lt_of_le (h.lt x (.inl hx)) hc.size) rfl rfl rfl (h.set.to hc (fun x e => .inl (.inl e)) (fun x e => .inl e)) ?_ ?_ ?_
 ·rw [blk_set h.box]
  simp only [hl]
  simp
 ·have h1 := (h.ops_step hch (fun x hx e => h.ao_ne x hx e) (fun _ e => e)).cut m (by rw [List.length_map]; exact hm)
  rw [← List.map_take] at h1
  exact h1
 ·exact h.frs_step hch (fun x hx => by rw [hx]; exact h.own) (fun x hx hn => (h.af_ne x hx).1 hn) (fun _ e => e) (fun _ e => .inl e)
theorem set3_blk {w : World} {p t : Nat} {a0 a1 a2 x0 x1 x2 : Value} (h : w.heap[p]? = some (.cells #[a0, a1, a2] t (0, 0))) : (((w.setCell ⟨p, 0, none⟩ x0).setCell ⟨p, 1, none⟩ x1).setCell ⟨p, 2, none⟩ x2).heap[p]? = some (.cells #[x0, x1, x2] t (0, 0)) := by
 have h1 := blk_set (blk_set (blk_set h 0 x0) 1 x1) 2 x2
 simpa using h1
theorem set3_chg (w : World) (p : Nat) (x0 x1 x2 : Value) : Chg (fun k => k = p) w (((w.setCell ⟨p, 0, none⟩ x0).setCell ⟨p, 1, none⟩ x1).setCell ⟨p, 2, none⟩ x2) :=
 ((chg_set w p 0 x0).trans (chg_set _ p 1 x1) (fun _ e => .inl e) (fun _ e => .inl e)).trans (chg_set _ p 2 x2) (fun _ e => .inl e) (fun _ e => .inl e)
theorem kvCut_w (g j : Nat) (A : Option Addr) (n c m : Nat) (w : World) (h : w.cell? ⟨g, j, none⟩ = some (.slice A n c)) (hf : w.frozen? ⟨g, j, none⟩ = false) (hm : m ≤ c) (hc : c ≤ 9223372036854775807) :
  Calls Tryz.prog 44 #[.pointer (some ⟨g, j, none⟩), .int .i64 (wrap64 (m : Int))] w fun e w' => e = .returned (.tuple #[]) ∧ w' = w.setCell ⟨g, j, none⟩ (.slice A m m) := by
 have hw : wrap64 (m : Int) = (m : Int) := by unfold wrap64; omega
 rw [hw]
 exact kvCut_calls g j A n c m w h hf hm hc
theorem getLastD_eq (l : List S39) (n : Nat) (h : l.length = n + 1) : l[n]? = some (l.getLastD v0) := by
 rw [List.getLastD_eq_getLast?, List.getLast?_eq_getElem?, h, Nat.add_sub_cancel, List.getElem?_eq_getElem (by omega)]
 rfl
theorem dropLast_eq (l : List S39) (n : Nat) (h : l.length = n + 1) : l.dropLast = l.take n := by rw [List.dropLast_eq_take, h, Nat.add_sub_cancel]
set_option maxHeartbeats 4000000 in
theorem kPop_yes {v1 v2 v3 v4 : Value} {ao : Option Addr} {co : Nat} {af : Option Addr} {cf : Nat} (h : StV D S g k w v1 v2 v3 v4 ao co af cf) {f : Fr} (hf : k.frames[k.frames.length - 1]? = some f) (hh : f.height < k.ops.length) (hm : k.ops.length ≤ 4294967296) (hn : k.frames.length ≤ 4294967296) :
  Calls Tryz.prog 79 #[.pointer (some ⟨g, 0, none⟩)] w fun e w' => e = .returned (.tuple #[.agg #[.int .i64 (k.ops.getLastD v0).f0, .bool (k.ops.getLastD v0).f1, .int .i64 (k.ops.getLastD v0).f2], .int .i64 0]) ∧ KG D S g v1 v2 v3 v4 af cf (fun _ c => c = k.ops.dropLast.length) { k with ops := k.ops.dropLast } w w' := by
 obtain ⟨n, hon⟩ : ∃ n, k.ops.length = n + 1 := ⟨k.ops.length - 1, by omega⟩
 have hx := getLastD_eq k.ops n hon
 have hdl := dropLast_eq k.ops n hon
 rw [hdl]
 obtain ⟨x, hxe⟩ : ∃ x, x = k.ops.getLastD v0 := ⟨_, rfl⟩
 rw [← hxe] at hx ⊢
 obtain ⟨b, m, A1, c1, A2, c2, A4, c4, eaf, hfm, ha, hb, hne⟩ := h.top hf
 subst eaf
 obtain ⟨ob, ocells, rfl, hob, hoc⟩ := h.ops.at0 (i := n) (cs := cVT x) (by rw [List.getElem?_map, hx]; rfl)
 have hpb := h.lt b (.inl hb)
 have hpo := blk_lt hob
 have hpg := h.lt g (.inl h.own)
 have hog := h.ao_ne ob rfl
 have hbw : Below w.heap.size w (w.alloc (.cells #[.int .i64 0, .bool false, .int .i64 0] 39)) := bz_
 have H1 := Aside0.mk (h.more (p := w.heap.size) hbw (Nat.le_refl _) (by simp))
 have HL := Aside0.mk hpg
 have c6 := H1.out.c6
 rw [hfm] at c6
 have K0 := kShut_calls g (some ⟨b, 0, none⟩) (m + 1) cf _ H1.out.c0 c6 (by omega)
 have K1 := kfTop_out c6 (by omega)
 have HA : Aside0 (w.cell? ⟨b, m * 6 + 3, none⟩ = some (.int .i64 f.height)) := ⟨ha.height⟩
 have HO : Aside0 (∀ j u, (cVT x)[j]? = some u → w.cell? ⟨ob, n * 3 + j, none⟩ = some u) := ⟨hoc⟩
 have hgt : decide ((f.height : Int) < ((n + 1 : Nat) : Int)) = true := by simp; omega
 have hgt2 : decide ((f.height : Int) < (n : Int) + 1) = true := by simp; omega
 have HON := Aside0.mk hon
 have HX := Aside0.mk hx
 have HLN : Aside0 (n = (k.ops.take n).length) := ⟨by rw [List.length_take]; omega⟩
 have PB := Aside0.mk (And.intro hpb (And.intro hpo hog))
 have HM := Aside0.mk hm
 clear h hf hfm ha hb hne hx hdl hxe hob hoc hpb hpo hog hon c6 hpg hm hh
 go_enter Tryz.func79, Tryz.ntmps79
 go_wp2_with fail
 refine K0.mono ?_
 rintro e w1 ⟨rfl, e1⟩
 subst e1
 clear K0
 go_wp2_with fail
 refine K1.mono ?_
 rintro e w2 ⟨rfl, hb2⟩
 have H2 := Aside0.mk (H1.out.below hb2)
 have B2 := Aside0.mk (hbw.trans (hb2.mono hbw.size))
 have c5 := H2.out.c5
 rw [HON.out] at c5
 have hh2 : w2.cell? ⟨b, m * 6 + 3, none⟩ = some (.int .i64 f.height) := (B2.out.cell PB.out.1).trans HA.out
 have R2 := Aside0.mk (blk_below (blk_new w (.cells #[.int .i64 0, .bool false, .int .i64 0] 39)) hb2)
 clear hb2 K1 hbw
 go_wp2_with fail
 refine start_ (n := 10) (S := fun w' => w'.cell? ⟨g, 5, none⟩ = some (.slice (some ⟨ob, 0, none⟩) (n + 1) co) ∧ w'.cell? ⟨b, m * 6 + 3, none⟩ = some (.int .i64 f.height)) (ds := []) (bm_ 10 0) (by kernel_rfl) rfl rfl ⟨c5, hh2⟩ (fun hHeld => ?_)
 refine pz_ 0 18 10 1 ?_
 refine pz_ 1 19 10 3 ?_
 refine pz_ 2 20 10 7 ?_
 refine pz_ 4 22 10 23 ?_
 refine pz_ 5 23 10 55 ?_
 refine pz_ 6 24 10 119 ?_
 refine tz_ 7 25 10 247 hHeld ?_
 refine oz_ 3 21 10 255 fun K hK => ?_
 refine gz_ Tryz.func71 #[.pointer (some ⟨g, 5, none⟩)] ?_
 with_reducible refine (kvSize_calls g 5 _ (n + 1) co _ hHeld.1).mono ?_
 rintro e w6 ⟨rfl, rfl⟩
 refine ⟨_, rfl, ?_⟩
 refine hK.out _ _ ⟨hHeld.1, hHeld.2⟩ (fun hHeld => ?_)
 clear hK K
 refine nz_ ?_
 refine pz_ 8 26 10 511 ?_
 refine pz_ 9 17 10 1023 ?_
 refine dz_ ?_

 clear hh2
 have H3 := Aside0.mk (H2.out.below (W' := w2.drew) (Below.refl _ _).drew)
 have R3 : Aside0 (w2.drew.heap[w.heap.size]? = some (.cells #[.int .i64 0, .bool false, .int .i64 0] 39 (0, 0))) := ⟨R2.out⟩
 have B3 : Aside0 (Below w.heap.size w w2.drew) := ⟨B2.out.drew⟩
 generalize World.drew w2 = w3 at H3 R3 B3 ⊢
 clear c5 H2 B2 R2
 have c5 := H3.out.c5
 rw [HON.out] at c5
 have K2 := kvTop_out c5 (by have := HM.out; have := HON.out; omega)
 go_wp2_with fail
 refine K2.mono ?_
 rintro e w4 ⟨rfl, hb4⟩
 have H4 := Aside0.mk (H3.out.below hb4)
 have B4 := Aside0.mk (B3.out.trans (hb4.mono B3.out.size))
 have R4 := Aside0.mk (blk_below R3.out hb4)
 have o0 : w4.cell? ⟨ob, n * 3, none⟩ = some (.int .i64 x.f0) := (B4.out.cell PB.out.2.1).trans (HO.out 0 _ rfl)
 have o1 : w4.cell? ⟨ob, n * 3 + 1, none⟩ = some (.bool x.f1) := (B4.out.cell PB.out.2.1).trans (HO.out 1 _ rfl)
 have o2 : w4.cell? ⟨ob, n * 3 + 2, none⟩ = some (.int .i64 x.f2) := (B4.out.cell PB.out.2.1).trans (HO.out 2 _ rfl)
 clear hb4 K2 c5 H3 B3 R3
 go_wp2_with fail
 obtain ⟨w5, hw5⟩ : ∃ w5, w5 = World.drew (w4.alloc (.cells #[.int .i64 x.f0, .bool x.f1, .int .i64 x.f2] 39)) := ⟨_, rfl⟩
 have b5 : Below w4.heap.size w4 w5 := by rw [hw5]; exact (bz_).drew
 have H5 := Aside0.mk (H4.out.below b5)
 have B5 := Aside0.mk (B4.out.trans (b5.mono B4.out.size))
 have R5 := Aside0.mk (blk_below R4.out b5)
 have N5 : Aside0 (w5.heap[w4.heap.size]? = some (.cells #[.int .i64 x.f0, .bool x.f1, .int .i64 x.f2] 39 (0, 0))) := ⟨by rw [hw5]; exact blk_new w4 _⟩
 have hw : wrap64 (((n + 1 : Nat) : Int) - 1) = (n : Int) := by have := HM.out; have := HON.out; unfold wrap64; omega
 have hw2 : True := trivial
 have c5 := H5.out.c5
 rw [HON.out] at c5
 have GQ : Aside0 (w4.heap.size ≠ g) := ⟨by have := HL.out; have := B4.out.size; omega⟩
 clear b5 H4 R4
 refine start_ (n := 9) (S := fun w' => w'.cell? ⟨g, 5, none⟩ = some (.slice (some ⟨ob, 0, none⟩) (n + 1) co)) (ds := [8]) (bm_ 9 0) (by kernel_rfl) rfl rfl ((by rw [← hw5]; exact c5)) (fun hHeld => ?_)
 rw [← hw5] at hHeld ⊢
 clear hw5 c5
 refine pz_ 0 33 9 1 ?_
 refine pz_ 1 34 9 3 ?_
 refine pz_ 2 35 9 7 ?_
 refine pz_ 3 36 9 15 ?_
 refine pz_ 4 37 9 31 ?_
 refine pz_ 5 38 9 63 ?_
 refine oz_ 6 39 9 127 fun K hK => ?_
 refine gz_ Tryz.func71 #[.pointer (some ⟨g, 5, none⟩)] ?_
 with_reducible refine (kvSize_calls g 5 _ (n + 1) co _ hHeld).mono ?_
 rintro e w5 ⟨rfl, rfl⟩
 refine ⟨_, rfl, ?_⟩
 refine hK.out _ _ (hHeld) (fun hHeld => ?_)
 clear hK K
 refine nz_ ?_
 refine pz_ 7 40 9 255 ?_
 refine lz_ 8 41 9 511 fun K hK => ?_
 refine gz_ Tryz.func44 #[.pointer (some ⟨g, 5, none⟩), .int .i64 (wrap64 (n : Int))] ?_
 with_reducible refine (kvCut_w g 5 _ (n + 1) co n _ hHeld (blk_frozen H5.out.box 5) (by have := H5.out.co_le; have := HON.out; omega) H5.out.ops.cap).mono ?_
 rintro e w6 ⟨rfl, rfl⟩
 refine ⟨_, rfl, ?_⟩
 refine hK.out _ _ ?_
 clear hK K
 refine nz_ ?_
 refine dz_ ?_

 have KC := Aside0.mk (StV.cut H5.out n (by have := HON.out; omega))
 obtain ⟨w6, hw6⟩ : ∃ w6, w6 = w5.setCell ⟨g, 5, none⟩ (.slice (some ⟨ob, 0, none⟩) n n) := ⟨_, rfl⟩
 rw [← hw6] at KC ⊢
 have CH : Aside0 (Chg (fun x => x = g) w5 w6) := ⟨by rw [hw6]; exact chg_set w5 g 5 _⟩
 have GP : Aside0 (w.heap.size ≠ g) := ⟨by have := HL.out; omega⟩
 have r6 : w6.heap[w.heap.size]? = some (.cells #[.int .i64 0, .bool false, .int .i64 0] 39 (0, 0)) := by rw [hw6]; exact blk_far R5.out (p := ⟨g, 5, none⟩) GP.out _
 have q6 : w6.heap[w4.heap.size]? = some (.cells #[.int .i64 x.f0, .bool x.f1, .int .i64 x.f2] 39 (0, 0)) := by rw [hw6]; exact blk_far N5.out (p := ⟨g, 5, none⟩) GQ.out _
 have y0 : w6.cell? ⟨w4.heap.size, 0, none⟩ = some (.int .i64 x.f0) := (blk_cell q6 0).trans rfl
 have y1 : w6.cell? ⟨w4.heap.size, 1, none⟩ = some (.bool x.f1) := (blk_cell q6 1).trans rfl
 have y2 : w6.cell? ⟨w4.heap.size, 2, none⟩ = some (.int .i64 x.f2) := (blk_cell q6 2).trans rfl
 have p0 : w6.cell? ⟨w.heap.size, 0, none⟩ = some (.int .i64 0) := (blk_cell r6 0).trans rfl
 have p1 : w6.cell? ⟨w.heap.size, 1, none⟩ = some (.bool false) := (blk_cell r6 1).trans rfl
 have p2 : w6.cell? ⟨w.heap.size, 2, none⟩ = some (.int .i64 0) := (blk_cell r6 2).trans rfl
 have f0 : w6.frozen? ⟨w.heap.size, 0, none⟩ = false := blk_frozen r6 0
 have f1 : w6.frozen? ⟨w.heap.size, 1, none⟩ = false := blk_frozen r6 1
 have f2 : w6.frozen? ⟨w.heap.size, 2, none⟩ = false := blk_frozen r6 2
 have R6 := Aside0.mk r6
 clear hw6 r6 q6 hw hw2
 go_wp2_with fail
 refine bodyPost_ret (v := .tuple #[.agg #[.int .i64 x.f0, .bool x.f1, .int .i64 x.f2], .int .i64 0]) ?_ rfl ?_
 ·exact results_ct (p := 2) (u := 3) rfl _ _ w.heap.size 39 #[.int .i64 x.f0, .bool x.f1, .int .i64 x.f2] (0, 0) _ rfl (set3_blk R6.out) Tryz.underlying39 rfl (by kernel_rfl)
 exact ⟨rfl, KG.cell B5.out (Nat.le_refl _) KC.out (fun _ e => e) (fun _ e => .inl e) CH.out (set3_chg _ _ _ _ _) (fun _ e => e) HLN.out⟩
set_option maxHeartbeats 4000000 in
theorem kPop_dead {v1 v2 v3 v4 : Value} {ao : Option Addr} {co : Nat} {af : Option Addr} {cf : Nat} (h : StV D S g k w v1 v2 v3 v4 ao co af cf) {f : Fr} (hf : k.frames[k.frames.length - 1]? = some f) (hh : k.ops.length ≤ f.height) (hd : f.dead = true) (hm : k.ops.length ≤ 4294967296) (hn : k.frames.length ≤ 4294967296) :
  Calls Tryz.prog 79 #[.pointer (some ⟨g, 0, none⟩)] w fun e w' => e = .returned (.tuple #[.agg #[.int .i64 0, .bool false, .int .i64 0], .int .i64 0]) ∧ KG D S g v1 v2 v3 v4 af cf (fun a c => a = ao ∧ c = co) k w w' := by
 obtain ⟨n, hon⟩ : ∃ n, k.ops.length = n := ⟨_, rfl⟩
 obtain ⟨b, m, A1, c1, A2, c2, A4, c4, eaf, hfm, ha, hb, hne⟩ := h.top hf
 subst eaf
 have hpb := h.lt b (.inl hb)
 have hpg := h.lt g (.inl h.own)
 have hbw : Below w.heap.size w (w.alloc (.cells #[.int .i64 0, .bool false, .int .i64 0] 39)) := bz_
 have H1 := Aside0.mk (h.more (p := w.heap.size) hbw (Nat.le_refl _) (by simp))
 have c6 := H1.out.c6
 rw [hfm] at c6
 have K0 := kShut_calls g (some ⟨b, 0, none⟩) (m + 1) cf _ H1.out.c0 c6 (by omega)
 have K1 := kfTop_out c6 (by omega)
 have hdd := ha.dead
 rw [hd] at hdd
 have HA := Aside0.mk (And.intro ha.height hdd)
 have hgt : decide ((f.height : Int) < (n : Int)) = false := by simp; omega
 have hgt2 : decide (f.height < n) = false := by simp; omega
 have HON := Aside0.mk hon
 have PB := Aside0.mk hpb
 clear h hf hfm ha hb hne hpb hon c6 hpg hm hh hdd
 go_enter Tryz.func79, Tryz.ntmps79
 go_wp2_with fail
 refine K0.mono ?_
 rintro e w1 ⟨rfl, e1⟩
 subst e1
 clear K0
 go_wp2_with fail
 refine K1.mono ?_
 rintro e w2 ⟨rfl, hb2⟩
 have H2 := Aside0.mk (H1.out.below hb2)
 have B2 := Aside0.mk (hbw.trans (hb2.mono hbw.size))
 have c5 := H2.out.c5
 rw [HON.out] at c5
 have hh2 : w2.cell? ⟨b, m * 6 + 3, none⟩ = some (.int .i64 f.height) := (B2.out.cell PB.out).trans HA.out.1
 have hd2 : w2.cell? ⟨b, m * 6 + 5, none⟩ = some (.bool true) := (B2.out.cell PB.out).trans HA.out.2
 have r2 := blk_below (blk_new w (.cells #[.int .i64 0, .bool false, .int .i64 0] 39)) hb2
 have R2 := Aside0.mk r2
 have p0 : w2.cell? ⟨w.heap.size, 0, none⟩ = some (.int .i64 0) := (blk_cell r2 0).trans rfl
 have p1 : w2.cell? ⟨w.heap.size, 1, none⟩ = some (.bool false) := (blk_cell r2 1).trans rfl
 have p2 : w2.cell? ⟨w.heap.size, 2, none⟩ = some (.int .i64 0) := (blk_cell r2 2).trans rfl
 have f0 : w2.frozen? ⟨w.heap.size, 0, none⟩ = false := blk_frozen r2 0
 have f1 : w2.frozen? ⟨w.heap.size, 1, none⟩ = false := blk_frozen r2 1
 have f2 : w2.frozen? ⟨w.heap.size, 2, none⟩ = false := blk_frozen r2 2
 clear hb2 K1 hbw r2
 go_wp2_with fail
 refine start_ (n := 10) (S := fun w' => w'.cell? ⟨g, 5, none⟩ = some (.slice ao n co) ∧ w'.cell? ⟨b, m * 6 + 3, none⟩ = some (.int .i64 f.height)) (ds := []) (bm_ 10 0) (by kernel_rfl) rfl rfl ⟨c5, hh2⟩ (fun hHeld => ?_)
 refine pz_ 0 18 10 1 ?_
 refine pz_ 1 19 10 3 ?_
 refine pz_ 2 20 10 7 ?_
 refine pz_ 4 22 10 23 ?_
 refine pz_ 5 23 10 55 ?_
 refine pz_ 6 24 10 119 ?_
 refine tz_ 7 25 10 247 hHeld ?_
 refine oz_ 3 21 10 255 fun K hK => ?_
 refine gz_ Tryz.func71 #[.pointer (some ⟨g, 5, none⟩)] ?_
 with_reducible refine (kvSize_calls g 5 _ n co _ hHeld.1).mono ?_
 rintro e w6 ⟨rfl, rfl⟩
 refine ⟨_, rfl, ?_⟩
 refine hK.out _ _ ⟨hHeld.1, hHeld.2⟩ (fun hHeld => ?_)
 clear hK K
 refine nz_ ?_
 refine pz_ 8 26 10 511 ?_
 refine pz_ 9 17 10 1023 ?_
 refine dz_ ?_

 go_wp2_with fail
 refine bodyPost_ret (v := .tuple #[.agg #[.int .i64 0, .bool false, .int .i64 0], .int .i64 0]) ?_ rfl ?_
 ·exact results_ct (p := 2) (u := 3) rfl _ _ w.heap.size 39 #[.int .i64 0, .bool false, .int .i64 0] (0, 0) _ rfl (set3_blk (t := 39) R2.out) Tryz.underlying39 rfl (by kernel_rfl)
 exact ⟨rfl, KG.cell B2.out (Nat.le_refl _) H2.out (fun _ e => e) (fun _ e => .inl e) (Chg.refl _ _) ((Chg.of_below (Below.refl _ _).drew (fun k => k = w.heap.size)).trans (set3_chg _ _ _ _ _) (fun _ e => .inl e) (fun _ e => .inl e)) (fun _ e => e) ⟨rfl, rfl⟩⟩
set_option maxHeartbeats 4000000 in
theorem kPop_no {v1 v2 v3 v4 : Value} {ao : Option Addr} {co : Nat} {af : Option Addr} {cf : Nat} (h : StV D S g k w v1 v2 v3 v4 ao co af cf) {f : Fr} (hf : k.frames[k.frames.length - 1]? = some f) (hh : k.ops.length ≤ f.height) (hd : f.dead = false) (hm : k.ops.length ≤ 4294967296) (hn : k.frames.length ≤ 4294967296) :
  Calls Tryz.prog 79 #[.pointer (some ⟨g, 0, none⟩)] w fun e w' => e = .returned (.tuple #[.agg #[.int .i64 0, .bool false, .int .i64 0], .int .i64 130]) ∧ KG D S g v1 v2 v3 v4 af cf (fun a c => a = ao ∧ c = co) k w w' := by
 obtain ⟨n, hon⟩ : ∃ n, k.ops.length = n := ⟨_, rfl⟩
 obtain ⟨b, m, A1, c1, A2, c2, A4, c4, eaf, hfm, ha, hb, hne⟩ := h.top hf
 subst eaf
 have hpb := h.lt b (.inl hb)
 have hpg := h.lt g (.inl h.own)
 have hbw : Below w.heap.size w (w.alloc (.cells #[.int .i64 0, .bool false, .int .i64 0] 39)) := bz_
 have H1 := Aside0.mk (h.more (p := w.heap.size) hbw (Nat.le_refl _) (by simp))
 have c6 := H1.out.c6
 rw [hfm] at c6
 have K0 := kShut_calls g (some ⟨b, 0, none⟩) (m + 1) cf _ H1.out.c0 c6 (by omega)
 have K1 := kfTop_out c6 (by omega)
 have hdd := ha.dead
 rw [hd] at hdd
 have HA := Aside0.mk (And.intro ha.height hdd)
 have hgt : decide ((f.height : Int) < (n : Int)) = false := by simp; omega
 have hgt2 : decide (f.height < n) = false := by simp; omega
 have HON := Aside0.mk hon
 have PB := Aside0.mk hpb
 clear h hf hfm ha hb hne hpb hon c6 hpg hm hh hdd
 go_enter Tryz.func79, Tryz.ntmps79
 go_wp2_with fail
 refine K0.mono ?_
 rintro e w1 ⟨rfl, e1⟩
 subst e1
 clear K0
 go_wp2_with fail
 refine K1.mono ?_
 rintro e w2 ⟨rfl, hb2⟩
 have H2 := Aside0.mk (H1.out.below hb2)
 have B2 := Aside0.mk (hbw.trans (hb2.mono hbw.size))
 have c5 := H2.out.c5
 rw [HON.out] at c5
 have hh2 : w2.cell? ⟨b, m * 6 + 3, none⟩ = some (.int .i64 f.height) := (B2.out.cell PB.out).trans HA.out.1
 have hd2 : w2.cell? ⟨b, m * 6 + 5, none⟩ = some (.bool false) := (B2.out.cell PB.out).trans HA.out.2
 have r2 := blk_below (blk_new w (.cells #[.int .i64 0, .bool false, .int .i64 0] 39)) hb2
 have R2 := Aside0.mk r2
 have p0 : w2.cell? ⟨w.heap.size, 0, none⟩ = some (.int .i64 0) := (blk_cell r2 0).trans rfl
 have p1 : w2.cell? ⟨w.heap.size, 1, none⟩ = some (.bool false) := (blk_cell r2 1).trans rfl
 have p2 : w2.cell? ⟨w.heap.size, 2, none⟩ = some (.int .i64 0) := (blk_cell r2 2).trans rfl
 have f0 : w2.frozen? ⟨w.heap.size, 0, none⟩ = false := blk_frozen r2 0
 have f1 : w2.frozen? ⟨w.heap.size, 1, none⟩ = false := blk_frozen r2 1
 have f2 : w2.frozen? ⟨w.heap.size, 2, none⟩ = false := blk_frozen r2 2
 clear hb2 K1 hbw r2
 go_wp2_with fail
 refine start_ (n := 10) (S := fun w' => w'.cell? ⟨g, 5, none⟩ = some (.slice ao n co) ∧ w'.cell? ⟨b, m * 6 + 3, none⟩ = some (.int .i64 f.height)) (ds := []) (bm_ 10 0) (by kernel_rfl) rfl rfl ⟨c5, hh2⟩ (fun hHeld => ?_)
 refine pz_ 0 18 10 1 ?_
 refine pz_ 1 19 10 3 ?_
 refine pz_ 2 20 10 7 ?_
 refine pz_ 4 22 10 23 ?_
 refine pz_ 5 23 10 55 ?_
 refine pz_ 6 24 10 119 ?_
 refine tz_ 7 25 10 247 hHeld ?_
 refine oz_ 3 21 10 255 fun K hK => ?_
 refine gz_ Tryz.func71 #[.pointer (some ⟨g, 5, none⟩)] ?_
 with_reducible refine (kvSize_calls g 5 _ n co _ hHeld.1).mono ?_
 rintro e w6 ⟨rfl, rfl⟩
 refine ⟨_, rfl, ?_⟩
 refine hK.out _ _ ⟨hHeld.1, hHeld.2⟩ (fun hHeld => ?_)
 clear hK K
 refine nz_ ?_
 refine pz_ 8 26 10 511 ?_
 refine pz_ 9 17 10 1023 ?_
 refine dz_ ?_

 go_wp2_with fail
 refine bodyPost_ret (v := .tuple #[.agg #[.int .i64 0, .bool false, .int .i64 0], .int .i64 130]) ?_ rfl ?_
 ·exact results_ct (p := 2) (u := 3) rfl _ _ w.heap.size 39 #[.int .i64 0, .bool false, .int .i64 0] (0, 0) _ rfl (set3_blk (t := 39) R2.out) Tryz.underlying39 rfl (by kernel_rfl)
 exact ⟨rfl, KG.cell B2.out (Nat.le_refl _) H2.out (fun _ e => e) (fun _ e => .inl e) (Chg.refl _ _) ((Chg.of_below (Below.refl _ _).drew (fun k => k = w.heap.size)).trans (set3_chg _ _ _ _ _) (fun _ e => .inl e) (fun _ e => .inl e)) (fun _ e => e) ⟨rfl, rfl⟩⟩
/-- Pop. -/
theorem kPop_kg {v1 v2 v3 v4 : Value} {ao : Option Addr} {co : Nat} {af : Option Addr} {cf : Nat} (h : StV D S g k w v1 v2 v3 v4 ao co af cf) {f : Fr} (hf : k.frames[k.frames.length - 1]? = some f) (hh : f.height ≤ k.ops.length) (hm : k.ops.length ≤ 4294967296) (hn : k.frames.length ≤ 4294967296) {er : Int} {x : S39} {o' : List S39} (hp : popM f.height f.dead k.ops = (er, x, o')) :
  Calls Tryz.prog 79 #[.pointer (some ⟨g, 0, none⟩)] w fun e w' => e = .returned (.tuple #[.agg #[.int .i64 x.f0, .bool x.f1, .int .i64 x.f2], .int .i64 er]) ∧ KG D S g v1 v2 v3 v4 af cf (fun _ c => f.height < k.ops.length → c = o'.length) { k with ops := o' } w w' := by
 unfold popM at hp
 by_cases h1 : f.height < k.ops.length
 ·rw [if_pos h1] at hp
  injection hp with e1 e2
  injection e2 with e2 e3
  subst e1 e2 e3
  refine (kPop_yes h hf h1 hm hn).mono ?_
  rintro e w' ⟨rfl, S', ao', co', a1, a2, a3, a4, a5⟩
  exact ⟨rfl, S', ao', co', a1, a2, a3, a4, fun _ => a5⟩
 ·rw [if_neg h1] at hp
  cases hd : f.dead with
  | true =>
   rw [if_pos hd] at hp
   injection hp with e1 e2
   injection e2 with e2 e3
   subst e1 e2 e3
   refine (kPop_dead (k := k) h hf (Nat.le_of_not_lt h1) hd hm hn).mono ?_
   rintro e w' ⟨rfl, S', ao', co', a1, a2, a3, a4, a5⟩
   exact ⟨rfl, S', ao', co', a1, a2, a3, a4, fun l => absurd l h1⟩
  | false =>
   rw [if_neg (by rw [hd]; simp)] at hp
   injection hp with e1 e2
   injection e2 with e2 e3
   subst e1 e2 e3
   refine (kPop_no (k := k) h hf (Nat.le_of_not_lt h1) hd hm hn).mono ?_
   rintro e w' ⟨rfl, S', ao', co', a1, a2, a3, a4, a5⟩
   exact ⟨rfl, S', ao', co', a1, a2, a3, a4, fun l => absurd l h1⟩
theorem kPop_calls (h : St D S g k w) {f : Fr} (hf : k.frames[k.frames.length - 1]? = some f) (hh : f.height ≤ k.ops.length) (hm : k.ops.length ≤ 4294967296) (hn : k.frames.length ≤ 4294967296) {er : Int} {x : S39} {o' : List S39} (hp : popM f.height f.dead k.ops = (er, x, o')) :
  Calls Tryz.prog 79 #[.pointer (some ⟨g, 0, none⟩)] w (KOut D S g { k with ops := o' } (.tuple #[.agg #[.int .i64 x.f0, .bool x.f1, .int .i64 x.f2], .int .i64 er]) w) := by
 obtain ⟨v1, v2, v3, v4, ao, co, af, cf, h⟩ := h
 refine (kPop_kg h hf hh hm hn hp).mono ?_
 rintro e w' ⟨rfl, hk⟩
 exact ⟨rfl, hk.kst h.own⟩
theorem CR.put {sz e : Nat} {ok : Nat → Prop} {W : World} {b c : Nat} {xs : List (List Value)} (h : CR sz e ok W (some ⟨b, 0, none⟩) c xs) {i j : Nat} {cs : List Value} (hi : xs[i]? = some cs) (hj : j < sz) (u : Value) (hu : u.oneCell' = true) :
  CR sz e ok (W.setCell ⟨b, i * sz + j, none⟩ u) (some ⟨b, 0, none⟩) c (xs.set i (cs.set j u)) := by
 have hcell := fun q v (hq : cs[q]? = some v) => h.cell hi hq
 obtain ⟨ys, c0, h1, h2, h3⟩ := h
 have hle := CR.le h2
 have hil := (List.getElem?_eq_some_iff.1 hi).1
 have hyi : ys[i]? = some cs := by
  rw [h2, List.getElem?_take, if_pos hil] at hi
  exact hi
 have hcs : cs.length = sz ∧ ∀ v ∈ cs, v.oneCell' = true := by
  obtain ⟨_, inner, ho, hr⟩ := h1
  obtain ⟨e1, e2, e3⟩ := hr.2 i cs hyi
  rw [e1] at e2 e3
  exact ⟨e2, e3⟩
 have hset : cs.set j u = cs.take j ++ [u] ++ cs.drop (j + [u].length) := by
  rw [List.set_eq_take_append_cons_drop, if_pos (by have h9 := hcs.1; omega)]
  simp
 have hM : (Kd.raw sz).M W 0 (fun _ => False) (cs.set j u) (cs.take j ++ [u] ++ cs.drop (j + [u].length)) := by
  rw [← hset]
  refine ⟨rfl, by rw [List.length_set]; exact hcs.1, fun v hv => ?_⟩
  rcases List.mem_or_eq_of_mem_set hv with hv | rfl
  ·exact hcs.2 v hv
  ·exact hu
 obtain ⟨r1, r2⟩ := Kd.R_seg h1 (i : Int) (by omega) (by omega) (c := cs) (seg := [u]) (j := j) (x' := cs.set j u) (okp := fun _ => False) hcs.1 (fun q v hq => by
  obtain ⟨ad, e1, e2⟩ := hcell q v hq
  injection e1 with e1
  rw [← e1, Addr.add_lit, Nat.zero_add] at e2
  rw [Int.toNat_natCast]
  exact e2) (by show j + 1 ≤ sz; omega) hM (fun _ e => e.elim)
 rw [Int.toNat_natCast] at r1
 refine ⟨ys.set i (cs.set j u), c0, by rw [List.length_set]; exact r1, ?_, ?_⟩
 ·rw [List.length_set]
  conv => lhs; rw [h2, ← List.take_set]
 ·rw [List.length_set]
  rcases h3 with ⟨rfl, rfl⟩ | h3
  ·exact .inl ⟨rfl, rfl⟩
  ·exact .inr h3
theorem FmR.kill {ok sh : Nat → Prop} {W : World} {b c : Nat} {xs : List Fr} (h : FmR ok sh W (some ⟨b, 0, none⟩) c xs) {i : Nat} {f : Fr} (hi : xs[i]? = some f) (hb : ¬ sh b) : FmR ok sh (W.setCell ⟨b, i * 6 + 5, none⟩ (.bool true)) (some ⟨b, 0, none⟩) c (xs.set i { f with dead := true }) := by
 obtain ⟨rows, hl, hr, hf⟩ := h
 have hil := (List.getElem?_eq_some_iff.1 hi).1
 have hri : rows[i]? = some rows[i] := List.getElem?_eq_getElem (by omega)
 have hst : ∀ {x : Fr} {cs : List Value}, Kd.FK k105 W sh x.p cs → Kd.FK k105 (W.setCell ⟨b, i * 6 + 5, none⟩ (.bool true)) sh x.p cs := fun h => Kd.FK_step h (fun k hk _ => Below.heap_setCell W ⟨b, i * 6 + 5, none⟩ _ k (fun e => hb (by have e' : k = b := e; rw [← e']; exact hk)))
 refine ⟨rows.set i (rows[i].set 5 (.bool true)), by rw [List.length_set, List.length_set, hl], hr.put hri (by decide) _ rfl, fun j x cs hx hc => ?_⟩
 by_cases hji : i = j
 ·subst hji
  rw [List.getElem?_set_self hil] at hx
  rw [List.getElem?_set_self (by omega)] at hc
  injection hx with hx
  injection hc with hc
  subst hx hc
  obtain ⟨A1, c1, A2, c2, A4, c4, e1, l1, g1, l2, g2, l4, g4⟩ := k105_openF (hst (hf i f _ hi hri))
  rw [e1]
  exact k105_mkF _ sh (Fr.p { f with dead := true }) l1 g1 l2 g2 l4 g4
 ·rw [List.getElem?_set_ne hji] at hx hc
  exact hst (hf j x cs hx hc)
/-- The last frame's rest is not reached. -/
theorem Kst.kill {v1 v2 v3 v4 : Value} {ao : Option Addr} {co b cf m : Nat} {f : Fr} (h : StV D S g k w v1 v2 v3 v4 ao co (some ⟨b, 0, none⟩) cf) (hf : k.frames[m]? = some f) : Kst D S g w { k with frames := k.frames.set m { f with dead := true } } S (w.setCell ⟨b, m * 6 + 5, none⟩ (.bool true)) := by
 have hch := chg_set w b (m * 6 + 5) (.bool true)
 have hbS : S b := by
  obtain ⟨rows, _, hr, _⟩ := h.frs
  exact (hr.blk b rfl).1
 have hn := h.af_ne b rfl
 have hc : Chg S w (w.setCell ⟨b, m * 6 + 5, none⟩ (.bool true)) := hch.mono (fun x e => .inl (by rw [e]; exact hbS))
 refine ⟨fun _ e => e, fun _ e => .inl e, ⟨v1, v2, v3, v4, ao, co, some ⟨b, 0, none⟩, cf, h.out hc (fun _ e => e) (fun _ e => .inl e) (fun x hx => Nat.lt_of_lt_of_le (h.lt x (.inl hx)) hc.size) rfl rfl rfl (h.set.to hc (fun x e => .inl (.inl e)) (fun x e => .inl e)) ?_ ?_ ?_⟩, hc⟩
 ·rw [blk_far h.box (p := ⟨b, m * 6 + 5, none⟩) (fun e => hn.1 e.symm)]
  simp only [List.length_set]
 ·exact h.ops_step hch (fun x hx e => hn.2 (by rw [← e]; exact hx)) (fun _ e => e)
 ·exact h.frs.kill hf (fun e => e (.inl hbS))
set_option maxHeartbeats 4000000 in
theorem kUnreachable_calls (h : St D S g k w) {f : Fr} (hf : k.frames[k.frames.length - 1]? = some f) (hh : f.height ≤ k.ops.length) (hm : k.ops.length ≤ 4294967296) (hn : k.frames.length ≤ 4294967296) :
  Calls Tryz.prog 13 #[.pointer (some ⟨g, 0, none⟩)] w (KOut D S g { k with ops := k.ops.take f.height, frames := k.frames.set (k.frames.length - 1) { f with dead := true } } (.int .i64 0) w) := by
 obtain ⟨v1, v2, v3, v4, ao, co, b, cf, m, A1, c1, A2, c2, A4, c4, h, hfm, ha, hb, hne⟩ := h.top hf
 obtain ⟨n, hon⟩ : ∃ n, k.ops.length = n := ⟨_, rfl⟩
 have hpb := h.lt b (.inl hb)
 have H1 := Aside0.mk h
 have c6 := H1.out.c6
 rw [hfm] at c6
 have K0 := kShut_calls g (some ⟨b, 0, none⟩) (m + 1) cf _ H1.out.c0 c6 (by omega)
 have K1 := kfTop_out c6 (by omega)
 have hhe := ha.height
 have HA := Aside0.mk (And.intro hhe ha.dead)
 have HFM := Aside0.mk hfm
 have HF : Aside0 (k.frames[m]? = some f) := ⟨by rw [hfm, Nat.add_sub_cancel] at hf; exact hf⟩
 have HON := Aside0.mk hon
 have PB := Aside0.mk hpb
 have HNE := Aside0.mk hne
 have HLE : Aside0 (f.height ≤ n) := ⟨by omega⟩
 rw [hfm, Nat.add_sub_cancel]
 clear h hf hfm ha hb hne hpb hon c6 hm hh hhe
 go_enter Tryz.func13, Tryz.ntmps13
 go_wp2_with fail
 refine K0.mono ?_
 rintro e w1 ⟨rfl, e1⟩
 subst e1
 clear K0
 go_wp2_with fail
 refine K1.mono ?_
 rintro e w2 ⟨rfl, hb2⟩
 have H2 := Aside0.mk (H1.out.below hb2)
 have B2 := Aside0.mk hb2
 have c5 := H2.out.c5
 rw [HON.out] at c5
 have hh2 : w2.cell? ⟨b, m * 6 + 3, none⟩ = some (.int .i64 f.height) := (B2.out.cell PB.out).trans HA.out.1
 clear hb2 K1
 go_wp2_with fail
 refine start_ (n := 8) (S := fun w' => w'.cell? ⟨g, 5, none⟩ = some (.slice ao n co) ∧ w'.cell? ⟨b, m * 6 + 3, none⟩ = some (.int .i64 f.height)) (ds := [7]) (bm_ 8 0) (by kernel_rfl) rfl rfl ⟨c5, hh2⟩ (fun hHeld => ?_)
 refine pz_ 0 14 8 1 ?_
 refine pz_ 1 15 8 3 ?_
 refine pz_ 2 16 8 7 ?_
 refine pz_ 3 17 8 15 ?_
 refine pz_ 4 18 8 31 ?_
 refine pz_ 5 19 8 63 ?_
 refine tz_ 6 20 8 127 hHeld ?_
 refine lz_ 7 21 8 255 fun K hK => ?_
 refine gz_ Tryz.func44 #[.pointer (some ⟨g, 5, none⟩), .int .i64 f.height] ?_
 with_reducible refine (kvCut_calls g 5 ao n co f.height _ hHeld.1 (blk_frozen (w := w2.drew) H2.out.box 5) (by have := H2.out.co_le; have := HON.out; have := HLE.out; omega) H2.out.ops.cap).mono ?_
 rintro e w6 ⟨rfl, rfl⟩
 refine ⟨_, rfl, ?_⟩
 refine hK.out _ _ ?_
 clear hK K
 refine nz_ ?_
 refine dz_ ?_

 have H3 := Aside0.mk (H2.out.below (W' := w2.drew) (Below.refl _ _).drew)
 have KC := Aside0.mk (StV.cut H3.out f.height (by have := HON.out; have := HLE.out; omega))
 have B3 := Aside0.mk (B2.out.drew)
 obtain ⟨w4, hw4⟩ : ∃ w4, w4 = w2.drew.setCell ⟨g, 5, none⟩ (.slice ao f.height f.height) := ⟨_, rfl⟩
 rw [← hw4] at KC ⊢
 have b4 : w4.cell? ⟨b, m * 6 + 5, none⟩ = some (.bool f.dead) := by
  rw [hw4, cell_far (p := ⟨g, 5, none⟩) (a := ⟨b, m * 6 + 5, none⟩) HNE.out]
  exact (B2.out.cell PB.out).trans HA.out.2
 have f4 : w4.frozen? ⟨b, m * 6 + 5, none⟩ = false := by
  obtain ⟨rows, _, hr, _⟩ := KC.out.frs
  obtain ⟨_, _, cs, h1⟩ := hr.blk b rfl
  exact blk_frozen h1 _
 have C4 : Aside0 (Chg S w1 w4) := ⟨(Chg.of_below B3.out (fun _ => False)).trans (by rw [hw4]; exact chg_set _ g 5 _) (fun _ e => e.elim) (fun x e => .inl (by rw [e]; exact KC.out.own))⟩
 clear hw4 hHeld hh2 c5
 go_wp2_with fail
 go_ret
 have Q := Kst.kill KC.out (m := m) (f := f) HF.out
 exact ⟨rfl, S, ⟨fun _ e => e, fun _ e => .inl e, Q.st, C4.out.trans Q.chg (fun _ e => .inl e) (fun _ e => .inl e)⟩⟩
end
/-- Groups that the laws speak of: closed, of bounded bulk. -/
structure GOk (l : List S132) : Prop where
 clo : Clo l
 inn : LIn l
 w : wL l + l.length ≤ 1048576
theorem GOk.fl {l : List S132} (h : GOk l) : (flat l).length ≤ 1048576 := by
 have h1 := tcount_le_wL l
 have h2 := h.w
 rw [flat_length]
 omega
theorem GOk.la {l : List S132} (h : GOk l) {S : Nat → Prop} {w : World} {A : Option Addr} {c : Nat} (hl : LK k132 S w (.slice A l.length c) l) : LA w A c l := ⟨hl.reads.2.2, hl.reads.2.1, h.inn, h.w⟩
set_option maxHeartbeats 2000000 in
theorem subVal_calls {l : List S132} (hg : GOk l) {A : Option Addr} {c : Nat} {w : World} (hl : LA w A c l) (htab : Lib.TabBelow Tryz.prog w.heap.size w "internal/strconv.uint64pow10" .u64 Lib.pow10Tab) (a b : S39) :
  Calls Tryz.prog 119 #[.slice A l.length c, .agg #[.int .i64 a.f0, .bool a.f1, .int .i64 a.f2], .agg #[.int .i64 b.f0, .bool b.f1, .int .i64 b.f2]] w fun e w' => e = .returned (.bool (valM l a b)) ∧ Below w.heap.size w w' := by
 have ba : Below w.heap.size w ((w.alloc (.cells #[.int .i64 a.f0, .bool a.f1, .int .i64 a.f2] 39)).alloc (.cells #[.int .i64 b.f0, .bool b.f1, .int .i64 b.f2] 39)) := (bz_).alloc (by simp) _
 have BA := Aside0.mk ba
 by_cases h5 : a.f0 = 5 ∧ b.f0 = 5
 ·obtain ⟨W, hW⟩ : ∃ W, W = ((w.alloc (.cells #[.int .i64 a.f0, .bool a.f1, .int .i64 a.f2] 39)).alloc (.cells #[.int .i64 b.f0, .bool b.f1, .int .i64 b.f2] 39)) := ⟨_, rfl⟩
  have q0 : W.heap[w.heap.size]? = some (.cells #[.int .i64 a.f0, .bool a.f1, .int .i64 a.f2] 39 (0, 0)) := by rw [hW]; exact blk_alloc (blk_new w (.cells #[.int .i64 a.f0, .bool a.f1, .int .i64 a.f2] 39)) _
  have q1 : W.heap[w.heap.size + 1]? = some (.cells #[.int .i64 b.f0, .bool b.f1, .int .i64 b.f2] 39 (0, 0)) := by
   rw [hW]
   have h_ := blk_new (w.alloc (.cells #[.int .i64 a.f0, .bool a.f1, .int .i64 a.f2] 39)) (.cells #[.int .i64 b.f0, .bool b.f1, .int .i64 b.f2] 39)
   rw [World.size_alloc] at h_
   exact h_
  have Q0 := Aside0.mk (And.intro q0 q1)
  rw [← hW] at ba BA
  have K := opened_calls A c l W (hl.below ba) (fun w' hb => htab w' (ba.trans (hb.mono ba.size)))
  have HG := Aside0.mk hg
  obtain ⟨ha, hb⟩ := h5
  have e1 : (a.f0 != 5) = false := by simp [ha]
  have e2 : (b.f0 != 5) = false := by simp [hb]
  have HV := Aside0.mk (And.intro ha hb)
  clear hg hl htab ba ha hb q0 q1
  go_enter Tryz.func119, Tryz.ntmps119
  go_wp2_with fail
  rw [← hW]
  clear hW
  refine K.mono ?_
  rintro e w2 ⟨hb, h2⟩
  have q0 := blk_below Q0.out.1 hb
  have q1 := blk_below Q0.out.2 hb
  rcases h2 with ⟨_, rfl, hctx⟩ | ⟨hn, _⟩
  rotate_left
  ·exact absurd HG.out.clo hn
  have K2 := sval_calls l HG.out.clo _ a b w2 hctx HG.out.fl
  have B2 := Aside0.mk (BA.out.trans (hb.mono BA.out.size))
  have z0 : w2.cell? ⟨w.heap.size, 0, none⟩ = some (.int .i64 a.f0) := (blk_cell q0 0).trans rfl
  have z1 : w2.cell? ⟨w.heap.size, 1, none⟩ = some (.bool a.f1) := (blk_cell q0 1).trans rfl
  have z2 : w2.cell? ⟨w.heap.size, 2, none⟩ = some (.int .i64 a.f2) := (blk_cell q0 2).trans rfl
  have y0 : w2.cell? ⟨w.heap.size + 1, 0, none⟩ = some (.int .i64 b.f0) := (blk_cell q1 0).trans rfl
  have y1 : w2.cell? ⟨w.heap.size + 1, 1, none⟩ = some (.bool b.f1) := (blk_cell q1 1).trans rfl
  have y2 : w2.cell? ⟨w.heap.size + 1, 2, none⟩ = some (.int .i64 b.f2) := (blk_cell q1 2).trans rfl
  clear hb hctx q0 q1 K e1 e2
  go_wp2_with fail
  refine K2.mono ?_
  rintro e w3 ⟨rfl, hb3⟩
  have B3 := Aside0.mk (B2.out.trans (hb3.mono B2.out.size))
  clear hb3 K2
  go_wp2_with fail
  go_ret
  exact ⟨rfl, B3.out⟩
 ·have K := sval_plain none l a b ((w.alloc (.cells #[.int .i64 a.f0, .bool a.f1, .int .i64 a.f2] 39)).alloc (.cells #[.int .i64 b.f0, .bool b.f1, .int .i64 b.f2] 39)) h5
  clear hg hl htab ba
  by_cases ha : a.f0 = 5
  ·have hb : ¬ b.f0 = 5 := fun e => h5 ⟨ha, e⟩
   have e1 : (a.f0 != 5) = false := by simp [ha]
   have e2 : (b.f0 != 5) = true := by simp [hb]
   clear ha hb h5
   go_enter Tryz.func119, Tryz.ntmps119
   go_wp2_with fail
   refine K.mono ?_
   rintro e w3 ⟨rfl, hb3⟩
   have B3 := Aside0.mk (BA.out.trans (hb3.mono BA.out.size))
   clear hb3 K
   go_wp2_with fail
   go_ret
   exact ⟨rfl, B3.out⟩
  ·have e1 : (a.f0 != 5) = true := by simp [ha]
   clear ha h5
   go_enter Tryz.func119, Tryz.ntmps119
   go_wp2_with fail
   refine K.mono ?_
   rintro e w3 ⟨rfl, hb3⟩
   have B3 := Aside0.mk (BA.out.trans (hb3.mono BA.out.size))
   clear hb3 K
   go_wp2_with fail
   go_ret
   exact ⟨rfl, B3.out⟩
set_option maxHeartbeats 2000000 in
theorem subVals_calls {l : List S132} (hg : GOk l) {A : Option Addr} {c : Nat} {w : World} (hl : LA w A c l) (htab : Lib.TabBelow Tryz.prog w.heap.size w "internal/strconv.uint64pow10" .u64 Lib.pow10Tab) (Aa : Option Addr) (ca : Nat) (us : List S39) (Ab : Option Addr) (cb : Nat) (vs : List S39) (hA : Kd.C k39 w Aa us.length us) (hB : Kd.C k39 w Ab vs.length vs) (hn : us.length ≤ 1048576) :
  Calls Tryz.prog 46 #[.slice A l.length c, .slice Aa us.length ca, .slice Ab vs.length cb] w fun e w' => e = .returned (.bool (valsM l us vs)) ∧ Below w.heap.size w w' := by
 have K := opened_calls A c l _ hl htab
 have HG := Aside0.mk hg
 have HAB := Aside0.mk (And.intro hA hB)
 have HN := Aside0.mk hn
 clear hg hl htab hA hB hn
 go_enter Tryz.func46, Tryz.ntmps46
 go_wp2_with fail
 refine K.mono ?_
 rintro e w2 ⟨hb, h2⟩
 rcases h2 with ⟨_, rfl, hctx⟩ | ⟨hn, _⟩
 rotate_left
 ·exact absurd HG.out.clo hn
 have K2 := svals_calls _ l Aa ca us Ab cb vs w2 hctx HG.out.fl HG.out.clo (Kd.C_below HAB.out.1 hb) (Kd.C_below HAB.out.2 hb) HN.out
 have B2 := Aside0.mk hb
 clear hb hctx K
 go_wp2_with fail
 refine K2.mono ?_
 rintro e w3 ⟨rfl, hb3⟩
 have B3 := Aside0.mk (B2.out.trans (hb3.mono B2.out.size))
 clear hb3 K2
 go_wp2_with fail
 go_ret
 exact ⟨rfl, B3.out⟩
section
variable {D S : Nat → Prop} {g : Nat} {k : Chk} {w : World}
set_option maxHeartbeats 2000000 in
theorem kMatches_a (h : St D S g k w) (hg : GOk k.l) (a b : S39) (hz0 : a.f0 = 0) :
  Calls Tryz.prog 80 #[.pointer (some ⟨g, 0, none⟩), .agg #[.int .i64 a.f0, .bool a.f1, .int .i64 a.f2], .agg #[.int .i64 b.f0, .bool b.f1, .int .i64 b.f2]] w fun e w' => e = .returned (.bool true) ∧ Below w.heap.size w w' := by
 have ba : Below w.heap.size w ((w.alloc (.cells #[.int .i64 a.f0, .bool a.f1, .int .i64 a.f2] 39)).alloc (.cells #[.int .i64 b.f0, .bool b.f1, .int .i64 b.f2] 39)).drew := ((bz_).alloc (by simp) _).drew
 have BA := Aside0.mk ba
 have H1 := h.below ba
 have htab := H1.tab
 obtain ⟨v1, v2, v3, v4, ao, co, af, cf, h1⟩ := H1
 obtain ⟨A, c, rfl⟩ := h1.lst.slice
 have LA1 := Aside0.mk (hg.la h1.lst)
 have TB := Aside0.mk htab
 have HG := Aside0.mk hg
 have c1 : Aside0 ((((w.alloc (.cells #[.int .i64 a.f0, .bool a.f1, .int .i64 a.f2] 39)).alloc (.cells #[.int .i64 b.f0, .bool b.f1, .int .i64 b.f2] 39)).drew).cell? ⟨g, 1, none⟩ = some (.slice A k.l.length c)) := ⟨h1.c1⟩
 have q0 := blk_alloc (blk_new w (.cells #[.int .i64 a.f0, .bool a.f1, .int .i64 a.f2] 39)) (.cells #[.int .i64 b.f0, .bool b.f1, .int .i64 b.f2] 39)
 have q1 := blk_new (w.alloc (.cells #[.int .i64 a.f0, .bool a.f1, .int .i64 a.f2] 39)) (.cells #[.int .i64 b.f0, .bool b.f1, .int .i64 b.f2] 39)
 rw [World.size_alloc] at q1
 have Q := Aside0.mk (And.intro q0 q1)
 have g0 : (a.f0 == 0) = true := by simp [hz0]
 clear hz0
 clear h hg ba htab h1 q0 q1
 go_enter Tryz.func80, Tryz.ntmps80
 go_wp2_with fail
 refine start_ (n := 18) (S := fun w' => w'.cell? ⟨g, 1, none⟩ = some (.slice A k.l.length c) ∧ w'.cell? ⟨w.heap.size, 0, none⟩ = some (.int .i64 a.f0) ∧ w'.cell? ⟨w.heap.size, 1, none⟩ = some (.bool a.f1) ∧ w'.cell? ⟨w.heap.size, 2, none⟩ = some (.int .i64 a.f2) ∧ w'.cell? ⟨w.heap.size + 1, 0, none⟩ = some (.int .i64 b.f0) ∧ w'.cell? ⟨w.heap.size + 1, 1, none⟩ = some (.bool b.f1) ∧ w'.cell? ⟨w.heap.size + 1, 2, none⟩ = some (.int .i64 b.f2)) (ds := []) (bm_ 18 0) (by kernel_rfl) rfl rfl ⟨c1.out, (blk_cell (w := ((w.alloc _).alloc _).drew) Q.out.1 0).trans rfl, (blk_cell (w := ((w.alloc _).alloc _).drew) Q.out.1 1).trans rfl, (blk_cell (w := ((w.alloc _).alloc _).drew) Q.out.1 2).trans rfl, (blk_cell (w := ((w.alloc _).alloc _).drew) Q.out.2 0).trans rfl, (blk_cell (w := ((w.alloc _).alloc _).drew) Q.out.2 1).trans rfl, (blk_cell (w := ((w.alloc _).alloc _).drew) Q.out.2 2).trans rfl⟩ (fun hHeld => ?_)
 refine pz_ 0 7 18 1 ?_
 refine tz_ 1 8 18 3 hHeld ?_
 refine pz_ 2 9 18 7 ?_
 refine pz_ 3 10 18 15 ?_
 refine uz_ 4 11 18 31 ?_
 refine uz_ 5 12 18 63 ?_
 refine uz_ 6 13 18 127 ?_
 refine pz_ 7 14 18 255 ?_
 refine pz_ 8 15 18 511 ?_
 refine uz_ 9 16 18 1023 ?_
 refine uz_ 10 17 18 2047 ?_
 refine uz_ 11 18 18 4095 ?_
 refine uz_ 12 19 18 8191 ?_
 refine uz_ 13 20 18 16383 ?_
 refine uz_ 14 21 18 32767 ?_
 refine uz_ 15 22 18 65535 ?_
 refine pz_ 16 23 18 131071 ?_
 refine pz_ 17 6 18 262143 ?_
 refine dz_ ?_

 go_wp2_with fail
 go_ret
 exact ⟨rfl, BA.out⟩
set_option maxHeartbeats 2000000 in
theorem kMatches_b (h : St D S g k w) (hg : GOk k.l) (a b : S39) (hz0 : ¬ a.f0 = 0) (hz1 : b.f0 = 0) :
  Calls Tryz.prog 80 #[.pointer (some ⟨g, 0, none⟩), .agg #[.int .i64 a.f0, .bool a.f1, .int .i64 a.f2], .agg #[.int .i64 b.f0, .bool b.f1, .int .i64 b.f2]] w fun e w' => e = .returned (.bool true) ∧ Below w.heap.size w w' := by
 have ba : Below w.heap.size w ((w.alloc (.cells #[.int .i64 a.f0, .bool a.f1, .int .i64 a.f2] 39)).alloc (.cells #[.int .i64 b.f0, .bool b.f1, .int .i64 b.f2] 39)).drew := ((bz_).alloc (by simp) _).drew
 have BA := Aside0.mk ba
 have H1 := h.below ba
 have htab := H1.tab
 obtain ⟨v1, v2, v3, v4, ao, co, af, cf, h1⟩ := H1
 obtain ⟨A, c, rfl⟩ := h1.lst.slice
 have LA1 := Aside0.mk (hg.la h1.lst)
 have TB := Aside0.mk htab
 have HG := Aside0.mk hg
 have c1 : Aside0 ((((w.alloc (.cells #[.int .i64 a.f0, .bool a.f1, .int .i64 a.f2] 39)).alloc (.cells #[.int .i64 b.f0, .bool b.f1, .int .i64 b.f2] 39)).drew).cell? ⟨g, 1, none⟩ = some (.slice A k.l.length c)) := ⟨h1.c1⟩
 have q0 := blk_alloc (blk_new w (.cells #[.int .i64 a.f0, .bool a.f1, .int .i64 a.f2] 39)) (.cells #[.int .i64 b.f0, .bool b.f1, .int .i64 b.f2] 39)
 have q1 := blk_new (w.alloc (.cells #[.int .i64 a.f0, .bool a.f1, .int .i64 a.f2] 39)) (.cells #[.int .i64 b.f0, .bool b.f1, .int .i64 b.f2] 39)
 rw [World.size_alloc] at q1
 have Q := Aside0.mk (And.intro q0 q1)
 have g0 : (a.f0 == 0) = false := by simp [hz0]
 have g1 : (b.f0 == 0) = true := by simp [hz1]
 clear hz0 hz1
 clear h hg ba htab h1 q0 q1
 go_enter Tryz.func80, Tryz.ntmps80
 go_wp2_with fail
 refine start_ (n := 18) (S := fun w' => w'.cell? ⟨g, 1, none⟩ = some (.slice A k.l.length c) ∧ w'.cell? ⟨w.heap.size, 0, none⟩ = some (.int .i64 a.f0) ∧ w'.cell? ⟨w.heap.size, 1, none⟩ = some (.bool a.f1) ∧ w'.cell? ⟨w.heap.size, 2, none⟩ = some (.int .i64 a.f2) ∧ w'.cell? ⟨w.heap.size + 1, 0, none⟩ = some (.int .i64 b.f0) ∧ w'.cell? ⟨w.heap.size + 1, 1, none⟩ = some (.bool b.f1) ∧ w'.cell? ⟨w.heap.size + 1, 2, none⟩ = some (.int .i64 b.f2)) (ds := []) (bm_ 18 0) (by kernel_rfl) rfl rfl ⟨c1.out, (blk_cell (w := ((w.alloc _).alloc _).drew) Q.out.1 0).trans rfl, (blk_cell (w := ((w.alloc _).alloc _).drew) Q.out.1 1).trans rfl, (blk_cell (w := ((w.alloc _).alloc _).drew) Q.out.1 2).trans rfl, (blk_cell (w := ((w.alloc _).alloc _).drew) Q.out.2 0).trans rfl, (blk_cell (w := ((w.alloc _).alloc _).drew) Q.out.2 1).trans rfl, (blk_cell (w := ((w.alloc _).alloc _).drew) Q.out.2 2).trans rfl⟩ (fun hHeld => ?_)
 refine pz_ 0 7 18 1 ?_
 refine tz_ 1 8 18 3 hHeld ?_
 refine pz_ 2 9 18 7 ?_
 refine pz_ 3 10 18 15 ?_
 refine pz_ 4 11 18 31 ?_
 refine tz_ 5 12 18 63 hHeld ?_
 refine pz_ 6 13 18 127 ?_
 refine pz_ 7 14 18 255 ?_
 refine pz_ 8 15 18 511 ?_
 refine uz_ 9 16 18 1023 ?_
 refine uz_ 10 17 18 2047 ?_
 refine uz_ 11 18 18 4095 ?_
 refine uz_ 12 19 18 8191 ?_
 refine uz_ 13 20 18 16383 ?_
 refine uz_ 14 21 18 32767 ?_
 refine uz_ 15 22 18 65535 ?_
 refine pz_ 16 23 18 131071 ?_
 refine pz_ 17 6 18 262143 ?_
 refine dz_ ?_

 go_wp2_with fail
 go_ret
 exact ⟨rfl, BA.out⟩
set_option maxHeartbeats 2000000 in
theorem kMatches_c (h : St D S g k w) (hg : GOk k.l) (a b : S39) (hz0 : ¬ a.f0 = 0) (hz1 : ¬ b.f0 = 0) :
  Calls Tryz.prog 80 #[.pointer (some ⟨g, 0, none⟩), .agg #[.int .i64 a.f0, .bool a.f1, .int .i64 a.f2], .agg #[.int .i64 b.f0, .bool b.f1, .int .i64 b.f2]] w fun e w' => e = .returned (.bool (valM k.l a b)) ∧ Below w.heap.size w w' := by
 have ba : Below w.heap.size w ((w.alloc (.cells #[.int .i64 a.f0, .bool a.f1, .int .i64 a.f2] 39)).alloc (.cells #[.int .i64 b.f0, .bool b.f1, .int .i64 b.f2] 39)).drew := ((bz_).alloc (by simp) _).drew
 have BA := Aside0.mk ba
 have H1 := h.below ba
 have htab := H1.tab
 obtain ⟨v1, v2, v3, v4, ao, co, af, cf, h1⟩ := H1
 obtain ⟨A, c, rfl⟩ := h1.lst.slice
 have LA1 := Aside0.mk (hg.la h1.lst)
 have TB := Aside0.mk htab
 have HG := Aside0.mk hg
 have c1 : Aside0 ((((w.alloc (.cells #[.int .i64 a.f0, .bool a.f1, .int .i64 a.f2] 39)).alloc (.cells #[.int .i64 b.f0, .bool b.f1, .int .i64 b.f2] 39)).drew).cell? ⟨g, 1, none⟩ = some (.slice A k.l.length c)) := ⟨h1.c1⟩
 have q0 := blk_alloc (blk_new w (.cells #[.int .i64 a.f0, .bool a.f1, .int .i64 a.f2] 39)) (.cells #[.int .i64 b.f0, .bool b.f1, .int .i64 b.f2] 39)
 have q1 := blk_new (w.alloc (.cells #[.int .i64 a.f0, .bool a.f1, .int .i64 a.f2] 39)) (.cells #[.int .i64 b.f0, .bool b.f1, .int .i64 b.f2] 39)
 rw [World.size_alloc] at q1
 have Q := Aside0.mk (And.intro q0 q1)
 have g0 : (a.f0 == 0) = false := by simp [hz0]
 have g1 : (b.f0 == 0) = false := by simp [hz1]
 clear hz0 hz1
 clear h hg ba htab h1 q0 q1
 go_enter Tryz.func80, Tryz.ntmps80
 go_wp2_with fail
 refine start_ (n := 18) (S := fun w' => w'.cell? ⟨g, 1, none⟩ = some (.slice A k.l.length c) ∧ w'.cell? ⟨w.heap.size, 0, none⟩ = some (.int .i64 a.f0) ∧ w'.cell? ⟨w.heap.size, 1, none⟩ = some (.bool a.f1) ∧ w'.cell? ⟨w.heap.size, 2, none⟩ = some (.int .i64 a.f2) ∧ w'.cell? ⟨w.heap.size + 1, 0, none⟩ = some (.int .i64 b.f0) ∧ w'.cell? ⟨w.heap.size + 1, 1, none⟩ = some (.bool b.f1) ∧ w'.cell? ⟨w.heap.size + 1, 2, none⟩ = some (.int .i64 b.f2)) (ds := [15]) (bm_ 18 0) (by kernel_rfl) rfl rfl ⟨c1.out, (blk_cell (w := ((w.alloc _).alloc _).drew) Q.out.1 0).trans rfl, (blk_cell (w := ((w.alloc _).alloc _).drew) Q.out.1 1).trans rfl, (blk_cell (w := ((w.alloc _).alloc _).drew) Q.out.1 2).trans rfl, (blk_cell (w := ((w.alloc _).alloc _).drew) Q.out.2 0).trans rfl, (blk_cell (w := ((w.alloc _).alloc _).drew) Q.out.2 1).trans rfl, (blk_cell (w := ((w.alloc _).alloc _).drew) Q.out.2 2).trans rfl⟩ (fun hHeld => ?_)
 refine pz_ 0 7 18 1 ?_
 refine tz_ 1 8 18 3 hHeld ?_
 refine pz_ 2 9 18 7 ?_
 refine pz_ 3 10 18 15 ?_
 refine pz_ 4 11 18 31 ?_
 refine tz_ 5 12 18 63 hHeld ?_
 refine pz_ 6 13 18 127 ?_
 refine pz_ 7 14 18 255 ?_
 refine pz_ 8 15 18 511 ?_
 refine pz_ 9 16 18 1023 ?_
 refine pz_ 10 17 18 2047 ?_
 refine pz_ 11 18 18 4095 ?_
 refine tz_ 12 19 18 8191 hHeld ?_
 refine tz_ 13 20 18 16383 hHeld ?_
 refine tz_ 14 21 18 32767 hHeld ?_
 refine lz_ 15 22 18 65535 fun K hK => ?_
 refine gz_ Tryz.func119 #[.slice A k.l.length c, .agg #[.int .i64 a.f0, .bool a.f1, .int .i64 a.f2], .agg #[.int .i64 b.f0, .bool b.f1, .int .i64 b.f2]] ?_
 with_reducible refine (subVal_calls HG.out LA1.out TB.out a b).mono ?_
 rintro e w3 ⟨rfl, hb3⟩
 have B3 := Aside0.mk (BA.out.trans (hb3.mono BA.out.size))
 clear hb3
 refine ⟨_, rfl, ?_⟩
 refine hK.out _ _ ?_
 clear hK K
 refine nz_ ?_
 refine pz_ 16 23 18 131071 ?_
 refine pz_ 17 6 18 262143 ?_
 refine dz_ ?_

 go_wp2_with fail
 go_ret
 exact ⟨rfl, B3.out⟩
theorem kMatches_calls (h : St D S g k w) (hg : GOk k.l) (a b : S39) :
  Calls Tryz.prog 80 #[.pointer (some ⟨g, 0, none⟩), .agg #[.int .i64 a.f0, .bool a.f1, .int .i64 a.f2], .agg #[.int .i64 b.f0, .bool b.f1, .int .i64 b.f2]] w fun e w' => e = .returned (.bool (matM k.l a b)) ∧ Below w.heap.size w w' := by
 unfold matM
 by_cases h0 : a.f0 = 0
 ·simpa [h0] using kMatches_a h hg a b h0
 ·by_cases h1 : b.f0 = 0
  ·simpa [h0, h1] using kMatches_b h hg a b h0 h1
  ·have := kMatches_c h hg a b h0 h1
   rw [decide_eq_false h0, decide_eq_false h1, Bool.false_or, Bool.false_or]
   exact this
end
section
variable {D S : Nat → Prop} {g : Nat} {k : Chk} {w : World}
set_option maxHeartbeats 4000000 in
theorem kPopType_under {v1 v2 v3 v4 : Value} {ao : Option Addr} {co : Nat} {af : Option Addr} {cf : Nat} (h : StV D S g k w v1 v2 v3 v4 ao co af cf) (hg : GOk k.l) {f : Fr} (hf : k.frames[k.frames.length - 1]? = some f) (hh : f.height ≤ k.ops.length) (hm : k.ops.length ≤ 4294967296) (hn : k.frames.length ≤ 4294967296) (v x : S39) (o' : List S39) (hp : popM f.height f.dead k.ops = (130, x, o')) :
  Calls Tryz.prog 39 #[.pointer (some ⟨g, 0, none⟩), .agg #[.int .i64 v.f0, .bool v.f1, .int .i64 v.f2]] w fun e w' => e = .returned (.tuple #[.agg #[.int .i64 x.f0, .bool x.f1, .int .i64 x.f2], .int .i64 130]) ∧ KG D S g v1 v2 v3 v4 af cf (fun _ _ => True) { k with ops := o' } w w' := by
 obtain ⟨W, hW⟩ : ∃ W, W = ((w.alloc (.cells #[.int .i64 v.f0, .bool v.f1, .int .i64 v.f2] 39)).alloc (.cells #[.int .i64 0, .bool false, .int .i64 0] 39)) := ⟨_, rfl⟩
 have hbw : Below w.heap.size w W := by rw [hW]; exact (bz_).alloc (by simp) _
 have hsz : W.heap.size = w.heap.size + 1 + 1 := by rw [hW, World.size_alloc, World.size_alloc]
 have q0 : W.heap[w.heap.size]? = some (.cells #[.int .i64 v.f0, .bool v.f1, .int .i64 v.f2] 39 (0, 0)) := by rw [hW]; exact blk_alloc (blk_new w (.cells #[.int .i64 v.f0, .bool v.f1, .int .i64 v.f2] 39)) _
 have q1 : W.heap[w.heap.size + 1]? = some (.cells #[.int .i64 0, .bool false, .int .i64 0] 39 (0, 0)) := by
  rw [hW]
  have h_ := blk_new (w.alloc (.cells #[.int .i64 v.f0, .bool v.f1, .int .i64 v.f2] 39)) (.cells #[.int .i64 0, .bool false, .int .i64 0] 39)
  rw [World.size_alloc] at h_
  exact h_
 have h1 := h.more (p := w.heap.size + 1) hbw (Nat.le_succ _) (by omega)
 have GL : Aside0 (g < w.heap.size) := ⟨h.lt g (.inl h.own)⟩
 have SL : Aside0 (∀ y, S y → y < w.heap.size) := ⟨fun y hy => h.lt y (.inl hy)⟩
 have H1 := Aside0.mk h1
 have HG := Aside0.mk hg
 have K0 := kNone_calls g W h1.c0
 have K1 := kvSize_calls g 5 ao _ co W h1.c5
 have K2 := kPop_kg h1 hf hh hm hn hp
 have B0 := Aside0.mk hbw
 have Q0 := Aside0.mk (And.intro q0 q1)
 have HM := Aside0.mk hm
 obtain ⟨n, hn2⟩ : ∃ n, n = k.ops.length := ⟨_, rfl⟩
 have HN2 := Aside0.mk hn2
 rw [← hn2] at K1
 clear h h1 hg hf hh hm hn hp hbw q0 q1 hn2 hsz
 go_enter Tryz.func39, Tryz.ntmps39
 go_wp2_with fail
 rw [← hW]
 clear hW
 refine K0.mono ?_
 rintro e W ⟨rfl, rfl⟩
 clear K0
 go_wp2_with fail
 refine K1.mono ?_
 rintro e W ⟨rfl, rfl⟩
 clear K1
 go_wp2_with fail
 refine K2.mono ?_
 rintro e w2 ⟨rfl, S1, ao1, co1, hs, hgr, hst, hch, hC⟩
 have q0 := hch.blk Q0.out.1 (by have := GL.out; omega)
 have q1 := hch.blk Q0.out.2 (by have := GL.out; omega)
 have ST := Aside0.mk hst
 have CH := Aside0.mk hch
 have CC := Aside0.mk hC
 have SS := Aside0.mk (And.intro hs hgr)
 have N2 : Aside0 (w.heap.size + 1 < w2.heap.size) := ⟨blk_lt q1⟩
 clear hs hgr hst hch hC K2
 have b0 : w2.cell? ⟨w.heap.size, 0, none⟩ = some (.int .i64 v.f0) := (blk_cell q0 0).trans rfl
 have b1 : w2.cell? ⟨w.heap.size, 1, none⟩ = some (.bool v.f1) := (blk_cell q0 1).trans rfl
 have b2 : w2.cell? ⟨w.heap.size, 2, none⟩ = some (.int .i64 v.f2) := (blk_cell q0 2).trans rfl
 have p0 : w2.cell? ⟨w.heap.size + 1, 0, none⟩ = some (.int .i64 0) := (blk_cell q1 0).trans rfl
 have p1 : w2.cell? ⟨w.heap.size + 1, 1, none⟩ = some (.bool false) := (blk_cell q1 1).trans rfl
 have p2 : w2.cell? ⟨w.heap.size + 1, 2, none⟩ = some (.int .i64 0) := (blk_cell q1 2).trans rfl
 have f0 : w2.frozen? ⟨w.heap.size + 1, 0, none⟩ = false := blk_frozen q1 0
 have f1 : w2.frozen? ⟨w.heap.size + 1, 1, none⟩ = false := blk_frozen q1 1
 have f2 : w2.frozen? ⟨w.heap.size + 1, 2, none⟩ = false := blk_frozen q1 2
 have Q2 := Aside0.mk (And.intro q0 q1)
 have l2 : w.heap.size + 1 < w2.heap.size := N2.out
 have l1 : w.heap.size < w2.heap.size := by omega
 clear q0 q1
 go_wp2_with fail
 clear l1 l2
 refine bodyPost_ret (v := .tuple #[.agg #[.int .i64 x.f0, .bool x.f1, .int .i64 x.f2], .int .i64 130]) ?_ rfl ?_
 ·exact results_ct (p := 4) (u := 5) rfl _ _ (w.heap.size + 1) 39 #[.int .i64 x.f0, .bool x.f1, .int .i64 x.f2] (0, 0) _ rfl (blk_alloc (set3_blk Q2.out.2) _) Tryz.underlying39 rfl (by kernel_rfl)
 exact ⟨rfl, KG.cell B0.out (Nat.le_succ _) ST.out SS.out.1 SS.out.2 CH.out ((set3_chg _ _ _ _ _).trans (chg_alloc (fun _ => False) _ _) (fun _ e => .inl e) (fun _ e => e.elim)) (fun _ e => e) trivial⟩
set_option maxHeartbeats 4000000 in
theorem kPopType_yes {v1 v2 v3 v4 : Value} {ao : Option Addr} {co : Nat} {af : Option Addr} {cf : Nat} (h : StV D S g k w v1 v2 v3 v4 ao co af cf) (hg : GOk k.l) {f : Fr} (hf : k.frames[k.frames.length - 1]? = some f) (hh : f.height ≤ k.ops.length) (hm : k.ops.length ≤ 4294967296) (hn : k.frames.length ≤ 4294967296) (v x : S39) (o' : List S39) (hp : popM f.height f.dead k.ops = (0, x, o')) (hmt : matM k.l x v = true) :
  Calls Tryz.prog 39 #[.pointer (some ⟨g, 0, none⟩), .agg #[.int .i64 v.f0, .bool v.f1, .int .i64 v.f2]] w fun e w' => e = .returned (.tuple #[.agg #[.int .i64 x.f0, .bool x.f1, .int .i64 x.f2], .int .i64 0]) ∧ KG D S g v1 v2 v3 v4 af cf (fun _ _ => True) { k with ops := o' } w w' := by
 obtain ⟨W, hW⟩ : ∃ W, W = ((w.alloc (.cells #[.int .i64 v.f0, .bool v.f1, .int .i64 v.f2] 39)).alloc (.cells #[.int .i64 0, .bool false, .int .i64 0] 39)) := ⟨_, rfl⟩
 have hbw : Below w.heap.size w W := by rw [hW]; exact (bz_).alloc (by simp) _
 have hsz : W.heap.size = w.heap.size + 1 + 1 := by rw [hW, World.size_alloc, World.size_alloc]
 have q0 : W.heap[w.heap.size]? = some (.cells #[.int .i64 v.f0, .bool v.f1, .int .i64 v.f2] 39 (0, 0)) := by rw [hW]; exact blk_alloc (blk_new w (.cells #[.int .i64 v.f0, .bool v.f1, .int .i64 v.f2] 39)) _
 have q1 : W.heap[w.heap.size + 1]? = some (.cells #[.int .i64 0, .bool false, .int .i64 0] 39 (0, 0)) := by
  rw [hW]
  have h_ := blk_new (w.alloc (.cells #[.int .i64 v.f0, .bool v.f1, .int .i64 v.f2] 39)) (.cells #[.int .i64 0, .bool false, .int .i64 0] 39)
  rw [World.size_alloc] at h_
  exact h_
 have h1 := h.more (p := w.heap.size + 1) hbw (Nat.le_succ _) (by omega)
 have GL : Aside0 (g < w.heap.size) := ⟨h.lt g (.inl h.own)⟩
 have SL : Aside0 (∀ y, S y → y < w.heap.size) := ⟨fun y hy => h.lt y (.inl hy)⟩
 have H1 := Aside0.mk h1
 have HG := Aside0.mk hg
 have K0 := kNone_calls g W h1.c0
 have K1 := kvSize_calls g 5 ao _ co W h1.c5
 have K2 := kPop_kg h1 hf hh hm hn hp
 have HMT := Aside0.mk hmt
 clear hmt
 have B0 := Aside0.mk hbw
 have Q0 := Aside0.mk (And.intro q0 q1)
 have HM := Aside0.mk hm
 obtain ⟨n, hn2⟩ : ∃ n, n = k.ops.length := ⟨_, rfl⟩
 have HN2 := Aside0.mk hn2
 rw [← hn2] at K1
 clear h h1 hg hf hh hm hn hp hbw q0 q1 hn2 hsz
 go_enter Tryz.func39, Tryz.ntmps39
 go_wp2_with fail
 rw [← hW]
 clear hW
 refine K0.mono ?_
 rintro e W ⟨rfl, rfl⟩
 clear K0
 go_wp2_with fail
 refine K1.mono ?_
 rintro e W ⟨rfl, rfl⟩
 clear K1
 go_wp2_with fail
 refine K2.mono ?_
 rintro e w2 ⟨rfl, S1, ao1, co1, hs, hgr, hst, hch, hC⟩
 have q0 := hch.blk Q0.out.1 (by have := GL.out; omega)
 have q1 := hch.blk Q0.out.2 (by have := GL.out; omega)
 have ST := Aside0.mk hst
 have CH := Aside0.mk hch
 have CC := Aside0.mk hC
 have SS := Aside0.mk (And.intro hs hgr)
 have N2 : Aside0 (w.heap.size + 1 < w2.heap.size) := ⟨blk_lt q1⟩
 clear hs hgr hst hch hC K2
 have b0 : w2.cell? ⟨w.heap.size, 0, none⟩ = some (.int .i64 v.f0) := (blk_cell q0 0).trans rfl
 have b1 : w2.cell? ⟨w.heap.size, 1, none⟩ = some (.bool v.f1) := (blk_cell q0 1).trans rfl
 have b2 : w2.cell? ⟨w.heap.size, 2, none⟩ = some (.int .i64 v.f2) := (blk_cell q0 2).trans rfl
 have p0 : w2.cell? ⟨w.heap.size + 1, 0, none⟩ = some (.int .i64 0) := (blk_cell q1 0).trans rfl
 have p1 : w2.cell? ⟨w.heap.size + 1, 1, none⟩ = some (.bool false) := (blk_cell q1 1).trans rfl
 have p2 : w2.cell? ⟨w.heap.size + 1, 2, none⟩ = some (.int .i64 0) := (blk_cell q1 2).trans rfl
 have f0 : w2.frozen? ⟨w.heap.size + 1, 0, none⟩ = false := blk_frozen q1 0
 have f1 : w2.frozen? ⟨w.heap.size + 1, 1, none⟩ = false := blk_frozen q1 1
 have f2 : w2.frozen? ⟨w.heap.size + 1, 2, none⟩ = false := blk_frozen q1 2
 have Q2 := Aside0.mk (And.intro q0 q1)
 have l2 : w.heap.size + 1 < w2.heap.size := N2.out
 have l1 : w.heap.size < w2.heap.size := by omega
 clear q0 q1
 go_wp2_with fail
 clear l1 l2
 obtain ⟨w3, hw3⟩ : ∃ w3, w3 = w2.alloc (.cells #[.int .i64 x.f0, .bool x.f1, .int .i64 x.f2] 39) := ⟨_, rfl⟩
 rw [← hw3]
 have b3 : Below w2.heap.size w2 w3 := by rw [hw3]; exact bz_
 have r3 : w3.heap[w2.heap.size]? = some (.cells #[.int .i64 x.f0, .bool x.f1, .int .i64 x.f2] 39 (0, 0)) := by rw [hw3]; exact blk_new w2 _
 have K3 := kMatches_calls ⟨_, _, _, _, _, _, _, _, ST.out.below b3⟩ HG.out x v
 rw [HMT.out] at K3
 refine K3.mono ?_
 rintro e w4 ⟨rfl, hb4⟩
 have r4 := blk_below r3 hb4
 have q1 := blk_below (blk_below Q2.out.2 b3) hb4
 have R4 := Aside0.mk (And.intro r4 q1)
 have B4 := Aside0.mk (b3.trans (hb4.mono b3.size))
 clear b0 b1 b2 p0 p1 p2 f0 f1 f2 K3 hb4 hw3 r3 b3
 have x0 : w4.cell? ⟨w2.heap.size, 0, none⟩ = some (.int .i64 x.f0) := (blk_cell r4 0).trans rfl
 have x1 : w4.cell? ⟨w2.heap.size, 1, none⟩ = some (.bool x.f1) := (blk_cell r4 1).trans rfl
 have x2 : w4.cell? ⟨w2.heap.size, 2, none⟩ = some (.int .i64 x.f2) := (blk_cell r4 2).trans rfl
 have p0 : w4.cell? ⟨w.heap.size + 1, 0, none⟩ = some (.int .i64 0) := (blk_cell q1 0).trans rfl
 have p1 : w4.cell? ⟨w.heap.size + 1, 1, none⟩ = some (.bool false) := (blk_cell q1 1).trans rfl
 have p2 : w4.cell? ⟨w.heap.size + 1, 2, none⟩ = some (.int .i64 0) := (blk_cell q1 2).trans rfl
 have f0 : w4.frozen? ⟨w.heap.size + 1, 0, none⟩ = false := blk_frozen q1 0
 have f1 : w4.frozen? ⟨w.heap.size + 1, 1, none⟩ = false := blk_frozen q1 1
 have f2 : w4.frozen? ⟨w.heap.size + 1, 2, none⟩ = false := blk_frozen q1 2
 clear r4 q1
 go_wp2_with fail
 refine bodyPost_ret (v := .tuple #[.agg #[.int .i64 x.f0, .bool x.f1, .int .i64 x.f2], .int .i64 0]) ?_ rfl ?_
 ·exact results_ct (p := 4) (u := 5) rfl _ _ (w.heap.size + 1) 39 #[.int .i64 x.f0, .bool x.f1, .int .i64 x.f2] (0, 0) _ rfl (set3_blk R4.out.2) Tryz.underlying39 rfl (by kernel_rfl)
 exact ⟨rfl, KG.cell B0.out (Nat.le_succ _) (ST.out.below B4.out) SS.out.1 SS.out.2 (CH.out.trans (Chg.of_below B4.out (fun _ => False)) (fun _ e => .inl e) (fun _ e => e.elim)) (set3_chg _ _ _ _ _) (fun _ e => e) trivial⟩
set_option maxHeartbeats 4000000 in
theorem kPopType_bad {v1 v2 v3 v4 : Value} {ao : Option Addr} {co : Nat} {af : Option Addr} {cf : Nat} (h : StV D S g k w v1 v2 v3 v4 ao co af cf) (hg : GOk k.l) {f : Fr} (hf : k.frames[k.frames.length - 1]? = some f) (hh : f.height ≤ k.ops.length) (hm : k.ops.length ≤ 4294967296) (hn : k.frames.length ≤ 4294967296) (v x : S39) (o' : List S39) (hp : popM f.height f.dead k.ops = (0, x, o')) (hmt : matM k.l x v = false) (ho : o' ++ [x] = k.ops) (hfl : f.height < k.ops.length) :
  Calls Tryz.prog 39 #[.pointer (some ⟨g, 0, none⟩), .agg #[.int .i64 v.f0, .bool v.f1, .int .i64 v.f2]] w fun e w' => e = .returned (.tuple #[.agg #[.int .i64 0, .bool false, .int .i64 0], .int .i64 131]) ∧ KG D S g v1 v2 v3 v4 af cf (fun _ _ => True) { k with ops := k.ops } w w' := by
 obtain ⟨W, hW⟩ : ∃ W, W = ((w.alloc (.cells #[.int .i64 v.f0, .bool v.f1, .int .i64 v.f2] 39)).alloc (.cells #[.int .i64 0, .bool false, .int .i64 0] 39)) := ⟨_, rfl⟩
 have hbw : Below w.heap.size w W := by rw [hW]; exact (bz_).alloc (by simp) _
 have hsz : W.heap.size = w.heap.size + 1 + 1 := by rw [hW, World.size_alloc, World.size_alloc]
 have q0 : W.heap[w.heap.size]? = some (.cells #[.int .i64 v.f0, .bool v.f1, .int .i64 v.f2] 39 (0, 0)) := by rw [hW]; exact blk_alloc (blk_new w (.cells #[.int .i64 v.f0, .bool v.f1, .int .i64 v.f2] 39)) _
 have q1 : W.heap[w.heap.size + 1]? = some (.cells #[.int .i64 0, .bool false, .int .i64 0] 39 (0, 0)) := by
  rw [hW]
  have h_ := blk_new (w.alloc (.cells #[.int .i64 v.f0, .bool v.f1, .int .i64 v.f2] 39)) (.cells #[.int .i64 0, .bool false, .int .i64 0] 39)
  rw [World.size_alloc] at h_
  exact h_
 have h1 := h.more (p := w.heap.size + 1) hbw (Nat.le_succ _) (by omega)
 have GL : Aside0 (g < w.heap.size) := ⟨h.lt g (.inl h.own)⟩
 have SL : Aside0 (∀ y, S y → y < w.heap.size) := ⟨fun y hy => h.lt y (.inl hy)⟩
 have H1 := Aside0.mk h1
 have HG := Aside0.mk hg
 have K0 := kNone_calls g W h1.c0
 have K1 := kvSize_calls g 5 ao _ co W h1.c5
 have K2 := kPop_kg h1 hf hh hm hn hp
 have HMT := Aside0.mk hmt
 have HO := Aside0.mk ho
 have HFL := Aside0.mk hfl
 clear hmt ho hfl
 have B0 := Aside0.mk hbw
 have Q0 := Aside0.mk (And.intro q0 q1)
 have HM := Aside0.mk hm
 obtain ⟨n, hn2⟩ : ∃ n, n = k.ops.length := ⟨_, rfl⟩
 have HN2 := Aside0.mk hn2
 rw [← hn2] at K1
 clear h h1 hg hf hh hm hn hp hbw q0 q1 hn2 hsz
 go_enter Tryz.func39, Tryz.ntmps39
 go_wp2_with fail
 rw [← hW]
 clear hW
 refine K0.mono ?_
 rintro e W ⟨rfl, rfl⟩
 clear K0
 go_wp2_with fail
 refine K1.mono ?_
 rintro e W ⟨rfl, rfl⟩
 clear K1
 go_wp2_with fail
 refine K2.mono ?_
 rintro e w2 ⟨rfl, S1, ao1, co1, hs, hgr, hst, hch, hC⟩
 have q0 := hch.blk Q0.out.1 (by have := GL.out; omega)
 have q1 := hch.blk Q0.out.2 (by have := GL.out; omega)
 have ST := Aside0.mk hst
 have CH := Aside0.mk hch
 have CC := Aside0.mk hC
 have SS := Aside0.mk (And.intro hs hgr)
 have N2 : Aside0 (w.heap.size + 1 < w2.heap.size) := ⟨blk_lt q1⟩
 clear hs hgr hst hch hC K2
 have b0 : w2.cell? ⟨w.heap.size, 0, none⟩ = some (.int .i64 v.f0) := (blk_cell q0 0).trans rfl
 have b1 : w2.cell? ⟨w.heap.size, 1, none⟩ = some (.bool v.f1) := (blk_cell q0 1).trans rfl
 have b2 : w2.cell? ⟨w.heap.size, 2, none⟩ = some (.int .i64 v.f2) := (blk_cell q0 2).trans rfl
 have p0 : w2.cell? ⟨w.heap.size + 1, 0, none⟩ = some (.int .i64 0) := (blk_cell q1 0).trans rfl
 have p1 : w2.cell? ⟨w.heap.size + 1, 1, none⟩ = some (.bool false) := (blk_cell q1 1).trans rfl
 have p2 : w2.cell? ⟨w.heap.size + 1, 2, none⟩ = some (.int .i64 0) := (blk_cell q1 2).trans rfl
 have f0 : w2.frozen? ⟨w.heap.size + 1, 0, none⟩ = false := blk_frozen q1 0
 have f1 : w2.frozen? ⟨w.heap.size + 1, 1, none⟩ = false := blk_frozen q1 1
 have f2 : w2.frozen? ⟨w.heap.size + 1, 2, none⟩ = false := blk_frozen q1 2
 have Q2 := Aside0.mk (And.intro q0 q1)
 have l2 : w.heap.size + 1 < w2.heap.size := N2.out
 have l1 : w.heap.size < w2.heap.size := by omega
 clear q0 q1
 go_wp2_with fail
 clear l1 l2
 obtain ⟨w3, hw3⟩ : ∃ w3, w3 = w2.alloc (.cells #[.int .i64 x.f0, .bool x.f1, .int .i64 x.f2] 39) := ⟨_, rfl⟩
 rw [← hw3]
 have b3 : Below w2.heap.size w2 w3 := by rw [hw3]; exact bz_
 have r3 : w3.heap[w2.heap.size]? = some (.cells #[.int .i64 x.f0, .bool x.f1, .int .i64 x.f2] 39 (0, 0)) := by rw [hw3]; exact blk_new w2 _
 have K3 := kMatches_calls ⟨_, _, _, _, _, _, _, _, ST.out.below b3⟩ HG.out x v
 rw [HMT.out] at K3
 refine K3.mono ?_
 rintro e w4 ⟨rfl, hb4⟩
 have r4 := blk_below r3 hb4
 have q1 := blk_below (blk_below Q2.out.2 b3) hb4
 have R4 := Aside0.mk (And.intro r4 q1)
 have B4 := Aside0.mk (b3.trans (hb4.mono b3.size))
 clear b0 b1 b2 p0 p1 p2 f0 f1 f2 K3 hb4 hw3 r3 b3
 have x0 : w4.cell? ⟨w2.heap.size, 0, none⟩ = some (.int .i64 x.f0) := (blk_cell r4 0).trans rfl
 have x1 : w4.cell? ⟨w2.heap.size, 1, none⟩ = some (.bool x.f1) := (blk_cell r4 1).trans rfl
 have x2 : w4.cell? ⟨w2.heap.size, 2, none⟩ = some (.int .i64 x.f2) := (blk_cell r4 2).trans rfl
 have p0 : w4.cell? ⟨w.heap.size + 1, 0, none⟩ = some (.int .i64 0) := (blk_cell q1 0).trans rfl
 have p1 : w4.cell? ⟨w.heap.size + 1, 1, none⟩ = some (.bool false) := (blk_cell q1 1).trans rfl
 have p2 : w4.cell? ⟨w.heap.size + 1, 2, none⟩ = some (.int .i64 0) := (blk_cell q1 2).trans rfl
 have f0 : w4.frozen? ⟨w.heap.size + 1, 0, none⟩ = false := blk_frozen q1 0
 have f1 : w4.frozen? ⟨w.heap.size + 1, 1, none⟩ = false := blk_frozen q1 1
 have f2 : w4.frozen? ⟨w.heap.size + 1, 2, none⟩ = false := blk_frozen q1 2
 clear r4 q1
 go_wp2_with fail
 have S4 := Aside0.mk (ST.out.below B4.out)
 have K4 := kvSize_calls g 5 ao1 _ co1 w4 S4.out.c5
 have hlt : decide ((o'.length : Int) < (n : Int)) = true := by have h1 := congrArg List.length HO.out; have := HN2.out; simp at h1 ⊢; omega
 have hlt2 : decide (o'.length < n) = true := by have h1 := congrArg List.length HO.out; have := HN2.out; simp at h1 ⊢; omega
 dsimp only at K4
 refine K4.mono ?_
 rintro e w4 ⟨rfl, rfl⟩
 clear K4
 go_wp2_with fail
 refine start_ (n := 5) (S := fun w' => w'.cell? ⟨w2.heap.size, 0, none⟩ = some (.int .i64 x.f0) ∧ w'.cell? ⟨w2.heap.size, 1, none⟩ = some (.bool x.f1) ∧ w'.cell? ⟨w2.heap.size, 2, none⟩ = some (.int .i64 x.f2)) (ds := [4]) (bm_ 5 0) (by kernel_rfl) rfl rfl ⟨x0, x1, x2⟩ (fun hHeld => ?_)
 refine pz_ 0 36 5 1 ?_
 refine pz_ 1 37 5 3 ?_
 refine pz_ 2 38 5 7 ?_
 refine tz_ 3 39 5 15 hHeld ?_
 refine lz_ 4 40 5 31 fun K hK => ?_
 refine gz_ Tryz.func72 #[.pointer (some ⟨g, 5, none⟩), .agg #[.int .i64 x.f0, .bool x.f1, .int .i64 x.f2]] ?_
 with_reducible refine (kvPush_stv (S4.out.below (W' := w4.drew) (Below.refl _ _).drew) x (by have h1 := congrArg List.length HO.out; have := HM.out; simp at h1 ⊢; omega)).mono ?_
 rintro e w6 ⟨rfl, S2, ao2, co2, hs2, hg2, hst2, hch2⟩
 have ST6 := Aside0.mk hst2
 have SS6 : Aside0 ((∀ y, S y → S2 y) ∧ ∀ y, S2 y → S y ∨ W.heap.size ≤ y) := ⟨⟨fun y e => hs2 y (SS.out.1 y e), fun y e => (hg2 y e).elim (SS.out.2 y) (fun l => .inr (Nat.le_trans CH.out.size (Nat.le_trans B4.out.size l)))⟩⟩
 have CH6 : Aside0 (Chg (fun y => y = g) W w6) := ⟨(CH.out.trans (Chg.of_below B4.out.drew (fun _ => False)) (fun _ e => .inl e) (fun _ e => e.elim)).trans hch2 (fun _ e => .inl e) (fun y e => e.elim .inl (fun e => absurd (CC.out HFL.out).symm e.2))⟩
 clear hs2 hg2 hst2 hch2
 refine ⟨_, rfl, ?_⟩
 refine hK.out _ _ ?_
 clear hK K
 refine nz_ ?_
 refine dz_ ?_

 have q6 := CH6.out.blk Q0.out.2 (by have := GL.out; omega)
 have R6 := Aside0.mk q6
 clear x0 x1 x2 p0 p1 p2 f0 f1 f2
 have p0 : w6.cell? ⟨w.heap.size + 1, 0, none⟩ = some (.int .i64 0) := (blk_cell q6 0).trans rfl
 have p1 : w6.cell? ⟨w.heap.size + 1, 1, none⟩ = some (.bool false) := (blk_cell q6 1).trans rfl
 have p2 : w6.cell? ⟨w.heap.size + 1, 2, none⟩ = some (.int .i64 0) := (blk_cell q6 2).trans rfl
 have f0 : w6.frozen? ⟨w.heap.size + 1, 0, none⟩ = false := blk_frozen q6 0
 have f1 : w6.frozen? ⟨w.heap.size + 1, 1, none⟩ = false := blk_frozen q6 1
 have f2 : w6.frozen? ⟨w.heap.size + 1, 2, none⟩ = false := blk_frozen q6 2
 clear q6
 go_wp2_with fail
 have KF := ST6.out
 rw [HO.out] at KF
 refine bodyPost_ret (v := .tuple #[.agg #[.int .i64 0, .bool false, .int .i64 0], .int .i64 131]) ?_ rfl ?_
 ·exact results_ct (p := 4) (u := 5) rfl _ _ (w.heap.size + 1) 39 #[.int .i64 0, .bool false, .int .i64 0] (0, 0) _ rfl (set3_blk R6.out) Tryz.underlying39 rfl (by kernel_rfl)
 exact ⟨rfl, KG.cell B0.out (Nat.le_succ _) KF SS6.out.1 SS6.out.2 CH6.out (set3_chg _ _ _ _ _) (fun _ e => e) trivial⟩
/-- PopType. -/
theorem kPopType_kg {v1 v2 v3 v4 : Value} {ao : Option Addr} {co : Nat} {af : Option Addr} {cf : Nat} (h : StV D S g k w v1 v2 v3 v4 ao co af cf) (hg : GOk k.l) {f : Fr} (hf : k.frames[k.frames.length - 1]? = some f) (hh : f.height ≤ k.ops.length) (hm : k.ops.length ≤ 4294967296) (hn : k.frames.length ≤ 4294967296) (v : S39) {er : Int} {x : S39} {o' : List S39} (hp : popTM k.l f.height f.dead k.ops v = (er, x, o')) :
  Calls Tryz.prog 39 #[.pointer (some ⟨g, 0, none⟩), .agg #[.int .i64 v.f0, .bool v.f1, .int .i64 v.f2]] w fun e w' => e = .returned (.tuple #[.agg #[.int .i64 x.f0, .bool x.f1, .int .i64 x.f2], .int .i64 er]) ∧ KG D S g v1 v2 v3 v4 af cf (fun _ _ => True) { k with ops := o' } w w' := by
 unfold popTM at hp
 by_cases h1 : f.height < k.ops.length
 ·have hpm : popM f.height f.dead k.ops = (0, k.ops.getLastD v0, k.ops.dropLast) := by unfold popM; rw [if_pos h1]
  rw [hpm, if_neg (by simp)] at hp
  cases hmt : matM k.l (k.ops.getLastD v0) v with
  | true =>
   rw [if_pos hmt] at hp
   injection hp with e1 e2
   injection e2 with e2 e3
   subst e1 e2 e3
   exact kPopType_yes h hg hf hh hm hn v _ _ hpm hmt
  | false =>
   rw [if_neg (by rw [hmt]; simp)] at hp
   injection hp with e1 e2
   injection e2 with e2 e3
   subst e1 e2 e3
   obtain ⟨n, hon⟩ : ∃ n, k.ops.length = n + 1 := ⟨k.ops.length - 1, by omega⟩
   have ho : k.ops.dropLast ++ [k.ops.getLastD v0] = k.ops := by
    rw [dropLast_eq k.ops n hon]
    have hx := getLastD_eq k.ops n hon
    obtain ⟨x, hxe⟩ : ∃ x, x = k.ops.getLastD v0 := ⟨_, rfl⟩
    rw [← hxe] at hx ⊢
    have h2 : k.ops.take (n + 1) = k.ops := List.take_of_length_le (by omega)
    rw [List.take_add_one, hx] at h2
    simpa using h2
   exact kPopType_bad h hg hf hh hm hn v _ _ hpm hmt ho h1
 ·cases hd : f.dead with
  | true =>
   have hpm : popM f.height f.dead k.ops = (0, v0, k.ops) := by unfold popM; rw [if_neg h1, hd]; rfl
   have hmt : matM k.l v0 v = true := by simp [matM, v0]
   have hp2 := hpm
   rw [hp2, if_neg (by simp), if_pos hmt] at hp
   injection hp with e1 e2
   injection e2 with e2 e3
   subst e1 e2 e3
   exact kPopType_yes h hg hf hh hm hn v _ _ hpm hmt
  | false =>
   have hpm : popM f.height f.dead k.ops = (130, v0, k.ops) := by unfold popM; rw [if_neg h1, hd]; rfl
   have hp2 := hpm
   rw [hp2, if_pos (by simp)] at hp
   injection hp with e1 e2
   injection e2 with e2 e3
   subst e1 e2 e3
   exact kPopType_under h hg hf hh hm hn v _ _ hpm
end
end Go.Proofs.YtohlmkcgempdlaaGreatDoor.Cn
