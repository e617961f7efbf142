/- Parts of the proof of vctlOpens_holds (16 of 22): what it says and shows stands at its declarations. -/
import Derived.Test.YtohlmkcgempdlaaGreatDoorZO15
import Derived.ScopeJumps
import Derived.WalkMore
namespace Go.Proofs.YtohlmkcgempdlaaGreatDoor.Cn
set_option linter.unusedSimpArgs false
set_option maxRecDepth 100000
set_option linter.unusedVariables false
open Go.RowKit Go.Maps Go.Proofs.YtohlmkcgempdlaaGreatDoorW.PrintWords Go.Proofs.YtohlmkcgempdlaaGreatDoorW.PrintLast Go.Proofs.YtohlmkcgempdlaaGreatDoorW.PrintMore Go.Proofs.YtohlmkcgempdlaaGreatDoor.QD
section
variable {Q : Exit → Act → World → Prop} {J : Act → World → Prop} {l : Nat} {a : Act} {w : World}
theorem Bm0 : Exit.jump l J Q .ret a w = Q .ret a w := rfl
end
section
variable {l : List S132} {h : Nat} {dead : Bool} {ops : List S39}
theorem Bi5 (xs : List S39) (v : S39) : ∀ ops, (Ah5 l h dead xs ops).1 = 0 → Ah5 l h dead (xs ++ [v]) ops = if (Ap5 l h dead (Ah5 l h dead xs ops).2 v).1 = 0 then (0, (Ap5 l h dead (Ah5 l h dead xs ops).2 v).2.2) else ((Ap5 l h dead (Ah5 l h dead xs ops).2 v).1, (Ah5 l h dead xs ops).2) := by
 induction xs with
 | nil => intro ops _; rfl
 | cons x xs ih =>
  intro ops hz
  rw [List.cons_append]
  unfold Ah5 at hz ⊢
  by_cases h1 : (Ap5 l h dead ops x).1 = 0
  ·rw [if_pos h1] at hz ⊢
   rw [if_pos h1]
   exact ih _ hz
  ·rw [if_neg h1] at hz
   exact absurd hz h1
theorem Bi4 (xs ys : List S39) : ∀ ops, (Ah5 l h dead xs ops).1 ≠ 0 → Ah5 l h dead (xs ++ ys) ops = Ah5 l h dead xs ops := by
 induction xs with
 | nil => intro ops hz; exact absurd rfl hz
 | cons x xs ih =>
  intro ops hz
  rw [List.cons_append]
  unfold Ah5 at hz ⊢
  by_cases h1 : (Ap5 l h dead ops x).1 = 0
  ·rw [if_pos h1] at hz ⊢
   rw [if_pos h1]
   exact ih _ hz
  ·rw [if_neg h1, if_neg h1]
theorem popM_inv (hh : h ≤ ops.length) : h ≤ (popM h dead ops).2.2.length ∧ (popM h dead ops).2.2.length ≤ ops.length := by
 unfold popM
 split
 ·dsimp only
  rw [List.length_dropLast]
  omega
 ·split <;> exact ⟨hh, Nat.le_refl _⟩
theorem Cg4 (hh : h ≤ ops.length) (v : S39) : h ≤ (Ap5 l h dead ops v).2.2.length ∧ (Ap5 l h dead ops v).2.2.length ≤ ops.length := by
 unfold Ap5
 split
 ·exact ⟨hh, Nat.le_refl _⟩
 ·split
  ·exact popM_inv hh
  ·exact ⟨hh, Nat.le_refl _⟩
theorem Bd1 (xs : List S39) : ∀ ops, h ≤ ops.length → h ≤ (Ah5 l h dead xs ops).2.length ∧ (Ah5 l h dead xs ops).2.length ≤ ops.length := by
 induction xs with
 | nil => intro ops hh; exact ⟨hh, Nat.le_refl _⟩
 | cons x xs ih =>
  intro ops hh
  unfold Ah5
  have h1 := Cg4 (l := l) (dead := dead) hh x
  split
  ·have h2 := ih _ h1.1
   exact ⟨h2.1, Nat.le_trans h2.2 h1.2⟩
  ·exact ⟨hh, Nat.le_refl _⟩
theorem Bd2 (xs : List S39) (ops : List S39) (hh : h ≤ ops.length) : h ≤ (Al5 l h dead xs ops).2.length ∧ (Al5 l h dead xs ops).2.length ≤ ops.length := by
 unfold Al5
 split
 ·exact Bd1 _ ops hh
 ·exact ⟨hh, Nat.le_refl _⟩
theorem Bz1 (xs : List S39) (m : Nat) (x : S39) (hx : xs[m]? = some x) : (xs.drop m).reverse = (xs.drop (m + 1)).reverse ++ [x] := by
 obtain ⟨h1, h2⟩ := List.getElem?_eq_some_iff.1 hx
 rw [List.drop_eq_getElem_cons h1, h2, List.reverse_cons]
theorem Bn9 (xs : List S39) (m : Nat) : xs.reverse = (xs.drop m).reverse ++ (xs.take m).reverse := by
 conv => lhs; rw [← List.take_append_drop m xs, List.reverse_append]
end
section
variable {D S : Nat → Prop} {g : Nat} {k : Chk} {w : World}
def JB (g p : Nat) (er : Int) (P : World → Prop) (a : Act) (W : World) : Prop := ∃ u1 u2 u3 u5 u7 u8 u9 u10 u11 u12 u13 u14 u15 u16 u17 u18 u19 u20 u21 u22 u23 u24 u25 u26 u27 u28 u29 u30 u31 u32 u33 u34 u35 u36 u37 u38 u39, a = { tmps := #[.pointer (some ⟨g, 0, none⟩), u1, u2, u3, .int .i64 er, u5, .pointer (some ⟨p, 0, none⟩), u7, u8, u9, u10, u11, u12, u13, u14, u15, u16, u17, u18, u19, u20, u21, u22, u23, u24, u25, u26, u27, u28, u29, u30, u31, u32, u33, u34, u35, u36, u37, u38, u39], defers := [] } ∧ P W
theorem StV.back {v1 v2 v3 v4 : Value} {ao : Option Addr} {co : Nat} {af : Option Addr} {cf : Nat} (h : StV D S g k w v1 v2 v3 v4 ao co af cf) {W : World} (hc : Chg (fun x => x = g) w W) (hb : ∃ u, W.heap[g]? = some (.cells #[.bool true, v1, v2, v3, v4, u, .slice af k.frames.length cf] 102 (0, 0))) :
  StV D S g k (W.setCell ⟨g, 5, none⟩ (.slice ao k.ops.length co)) v1 v2 v3 v4 ao co af cf ∧ Chg (fun x => x = g) w (W.setCell ⟨g, 5, none⟩ (.slice ao k.ops.length co)) := by
 obtain ⟨u, hb⟩ := hb
 have c2 := hc.trans (Ae0 W g 5 (.slice ao k.ops.length co)) (fun _ e => .inl e) (fun _ e => .inl e)
 refine ⟨?_, c2⟩
 have hcS : Chg S w (W.setCell ⟨g, 5, none⟩ (.slice ao k.ops.length co)) := c2.mono (fun x e => .inl (by rw [e]; exact h.own))
 refine h.out hcS (fun _ e => e) (fun _ e => .inl e) (fun x hx => Nat.lt_of_lt_of_le (h.lt x (.inl hx)) hcS.size) rfl rfl rfl (h.set.to hcS (fun x e => .inl (.inl e)) (fun x e => .inl e)) ?_ ?_ ?_
 ·rw [Aa7 hb]
  simp
 ·exact h.ops_step c2 (fun x hx e => h.ao_ne x hx e) (fun _ e => e)
 ·exact h.frs_step c2 (fun x hx => by rw [hx]; exact h.own) (fun x hx hn => (h.af_ne x hx).1 hn) (fun _ e => e) (fun _ e => .inl e)
structure PQ (D S : Nat → Prop) (g : Nat) (k : Chk) (W : World) (v1 v2 v3 v4 : Value) (af : Option Addr) (cf : Nat) (S1 : Nat → Prop) (a1 : Option Addr) (c1 : Nat) (oj : List S39) (W1 : World) : Prop where
 st : StV D S1 g { k with ops := oj } W1 v1 v2 v3 v4 a1 c1 af cf
 sub : ∀ x, S x → S1 x
 grow : ∀ x, S1 x → S x ∨ W.heap.size ≤ x
 chg : Chg (fun x => x = g) W W1
theorem PQ.lk {α : Type} {d : Kd α} {v1 v2 v3 v4 : Value} {af : Option Addr} {cf : Nat} {S1 : Nat → Prop} {a1 : Option Addr} {c1 : Nat} {oj : List S39} {W W1 : World} {v : Value} {xs : List α} (h : PQ D S g k W v1 v2 v3 v4 af cf S1 a1 c1 oj W1) (hg : S g) (hl : LK d (fun x => S x ∨ D x) W v xs) : LK d (fun x => S1 x ∨ D x) W1 v xs :=
 hl.to h.chg (fun x e => .inl (.inl (by rw [e]; exact hg))) (fun x e => e.elim (fun e => (h.grow x e).imp .inl id) (fun e => .inl (.inr e)))
theorem PQ.next {v1 v2 v3 v4 : Value} {af : Option Addr} {cf : Nat} {S1 : Nat → Prop} {a1 : Option Addr} {c1 : Nat} {oj oj' : List S39} {W W1 W2 : World} {C : Option Addr → Nat → Prop} (h : PQ D S g k W v1 v2 v3 v4 af cf S1 a1 c1 oj W1) (hk : KG D S1 g v1 v2 v3 v4 af cf C { k with ops := oj' } W1 W2) : ∃ S2 a2 c2, PQ D S g k W v1 v2 v3 v4 af cf S2 a2 c2 oj' W2 := by
 obtain ⟨S2, a2, c2, b1, b2, b3, b4, _⟩ := hk
 exact ⟨S2, a2, c2, b3, fun x e => b1 x (h.sub x e), fun x e => (b2 x e).elim (h.grow x) (fun l => .inr (Nat.le_trans h.chg.size l)), h.chg.trans b4 (fun _ e => .inl e) (fun _ e => .inl e)⟩
theorem Ba3 {l : List S132} {h : Nat} {dead : Bool} {xs ops o2 : List S39} {e : Int} (hr : Ah5 l h dead xs.reverse ops = (e, o2)) : Al5 l h dead xs ops = (e, if e = 0 then o2 else ops) := by
 unfold Al5
 rw [hr]
 dsimp only
 split <;> rfl
set_option maxHeartbeats 8000000 in
theorem kPops_kg {v1 v2 v3 v4 : Value} {ao : Option Addr} {co : Nat} {af : Option Addr} {cf : Nat} (h : StV D S g k w v1 v2 v3 v4 ao co af cf) (hg : GOk k.l) {f : Fr} (hf : k.frames[k.frames.length - 1]? = some f) (hh : f.height ≤ k.ops.length) (hm : k.ops.length ≤ 4294967296) (hn : k.frames.length ≤ 4294967296) {A : Option Addr} {c : Nat} {l : List S39} (hl : LK k39 (fun x => S x ∨ D x) w (.slice A l.length c) l) (hlm : l.length ≤ 4294967296) {er : Int} {o' : List S39} (hp : Al5 k.l f.height f.dead l k.ops = (er, o')) :
  Calls Tryz.prog 70 #[.pointer (some ⟨g, 0, none⟩), .slice A l.length c] w fun e w' => e = .returned (.int .i64 er) ∧ KG D S g v1 v2 v3 v4 af cf (fun _ _ => True) { k with ops := o' } w w' := by
 obtain ⟨W, hW⟩ : ∃ W, W = w.alloc (.cells #[.slice ao k.ops.length co] 97) := ⟨_, rfl⟩
 have hbw : Below w.heap.size w W := by rw [hW]; exact bz_
 have K0 := Ag9 g af _ cf w h.c0 h.c6 (by have := (List.getElem?_eq_some_iff.1 hf).1; omega)
 have c5 := h.c5
 have GL : Aa2 (g < w.heap.size) := ⟨h.lt g (.inl h.own)⟩
 have q0 : W.heap[w.heap.size]? = some (.cells #[.slice ao k.ops.length co] 97 (0, 0)) := by rw [hW]; exact Aa6 w _
 have Q0 := zA q0
 have H0 := zA (h.below hbw)
 have LW := zA (hl.below hbw)
 have B0 := zA hbw
 have HG := zA hg
 have HF := zA (And.intro hf (And.intro hh (And.intro hm hn)))
 have HP := zA hp
 obtain ⟨n, hnl⟩ : ∃ n, n = l.length := ⟨_, rfl⟩
 obtain ⟨no, hno⟩ : ∃ no, no = k.ops.length := ⟨_, rfl⟩
 have HNO := zA hno
 rw [← hno] at c5 hW
 rw [← hnl] at hlm ⊢
 have HN := zA hnl
 have H9 : Aa2 (n ≤ 4294967296) := ⟨hlm⟩
 have hw0 : wrap64 ((n : Int) - 1) = (n : Int) - 1 := by unfold wrap64; omega
 clear h hg hf hh hm hn hl hp hbw hlm hnl q0 hno
 go_enter Tryz.func70, Tryz.ntmps70
 go_wp2_with fail
 refine wp_scope_jumps 0 (JB g w.heap.size er (fun W1 => er ≠ 0 ∧ o' = k.ops ∧ Chg (fun x => x = g) W W1 ∧ ∃ u, W1.heap[g]? = some (.cells #[.bool true, v1, v2, v3, v4, u, .slice af k.frames.length cf] 102 (0, 0)))) (fun _ _ => 0) rfl ?_ ?_
 rotate_left
 ·intro a1 W1 hJ
  obtain ⟨u1, u2, u3, u5, u7, u8, u9, u10, u11, u12, u13, u14, u15, u16, u17, u18, u19, u20, u21, u22, u23, u24, u25, u26, u27, u28, u29, u30, u31, u32, u33, u34, u35, u36, u37, u38, u39, rfl, hne, rfl, hch, hbox⟩ := hJ
  have q1 := hch.blk Q0.out (by have := GL.out; omega)
  obtain ⟨hst, hch2⟩ := H0.out.back hch hbox
  obtain ⟨u, hbox⟩ := hbox
  rw [← HNO.out] at hst hch2 q1
  have p0 : W1.cell? ⟨w.heap.size, 0, none⟩ = some (.slice ao no co) := (Aa0 q1 0).trans rfl
  have g5 : W1.cell? ⟨g, 5, none⟩ = some u := (Aa0 hbox 5).trans rfl
  have f5 : W1.frozen? ⟨g, 5, none⟩ = false := Aa1 hbox 5
  have HH := zA (And.intro hst hch2)
  clear K0 c5 hW hw0 hne hch hst hch2 q1 hbox
  go_wp2_with fail
  rw [Bm0]
  go_ret
  exact ⟨rfl, S, ao, co, fun _ e => e, fun _ e => .inl e, HH.out.1, (Chg.of_below B0.out (fun _ => False)).trans HH.out.2 (fun _ e => e.elim) (fun _ e => .inl e), trivial⟩
 ·go_wp2_with fail
  refine K0.mono ?_
  rintro e w ⟨rfl, rfl⟩
  clear K0
  go_wp2_with fail
  rw [← hW]
  clear hW c5
  have SG : Aa2 (S g) := ⟨H0.out.own⟩
  go_loopw [4, 7] (fun e i W1 => ∃ (m : Nat) (oj : List S39) (S1 : Nat → Prop) (a1 : Option Addr) (c1 : Nat), e = .int .i64 0 ∧ i = .int .i64 ((m : Int) - 1) ∧ m ≤ n ∧ Ah5 k.l f.height f.dead (l.drop m).reverse k.ops = (0, oj) ∧ PQ D S g k W v1 v2 v3 v4 af cf S1 a1 c1 oj W1) (fun _ i _ => (intOf i + 1).toNat)
  case atStart => exact ⟨n, k.ops, S, ao, co, rfl, by rw [hw0], Nat.le_refl _, by rw [List.drop_of_length_le (by have := HN.out; omega)]; rfl, H0.out, fun _ e => e, fun _ e => .inl e, Chg.refl _ _⟩
  case round =>
   clear hw0
   obtain ⟨m, oj, S1, a1, c1, rfl, rfl, hmn, hr, hpq⟩ := hrel
   have HR := zA hr
   have PP := zA hpq
   clear hr hpq
   rcases Nat.eq_zero_or_pos m with hm0 | hm0
   ·subst hm0
    have e0 : (((0 : Nat) : Int) - 1) = -1 := rfl
    rw [e0]
    clear e0
    go_wp2_with fail
    rw [Bm0]
    go_ret
    have h1 := HR.out
    rw [List.drop_zero] at h1
    have h2 := Ba3 h1
    rw [if_pos rfl] at h2
    have h3 := HP.out.symm.trans h2
    injection h3 with h3 h4
    subst h3 h4
    exact ⟨rfl, S1, a1, c1, PP.out.sub, fun x e => (PP.out.grow x e).imp id (fun l => Nat.le_trans B0.out.size l), PP.out.st, (Chg.of_below B0.out (fun _ => False)).trans PP.out.chg (fun _ e => e.elim) (fun _ e => .inl e), trivial⟩
   ·obtain ⟨m', rfl⟩ : ∃ m', m = m' + 1 := ⟨m - 1, by omega⟩
    have e1 : (((m' + 1 : Nat) : Int) - 1) = (m' : Int) := by omega
    rw [e1]
    obtain ⟨x, hx⟩ : ∃ x, l[m']? = some x := ⟨_, List.getElem?_eq_getElem (by have := HN.out; omega)⟩
    have hoj : f.height ≤ oj.length ∧ oj.length ≤ k.ops.length := by
     have h1 := Bd1 (l := k.l) (dead := f.dead) (l.drop (m' + 1)).reverse k.ops HF.out.2.1
     rw [HR.out] at h1
     exact h1
    obtain ⟨er1, x1, o1, hpt⟩ : ∃ er1 x1 o1, Ap5 k.l f.height f.dead oj x = (er1, x1, o1) := ⟨_, _, _, rfl⟩
    have K := Bv8 PP.out.st HG.out HF.out.1 hoj.1 (Nat.le_trans hoj.2 HF.out.2.2.1) HF.out.2.2.2 x hpt
    have LL := PP.out.lk SG.out LW.out
    obtain ⟨ad, eA, y0, y1, y2⟩ := Bg7 LL.reads.2.2 hx
    have eA' : A = some ad := eA
    subst eA'
    have HX := zA hx
    have HPT := zA hpt
    have HR2 : Aa2 (Ah5 k.l f.height f.dead (l.drop m').reverse k.ops = if er1 = 0 then (0, o1) else (er1, oj)) := ⟨by
     rw [Bz1 l m' x hx, Bi5 _ _ _ (by rw [HR.out]), HR.out]
     dsimp only
     rw [hpt]⟩
    have HM := zA hmn
    have hm1 : m' < n := by omega
    have hm2 : (m' : Int) < n := by omega
    have hm3 : m' ≤ 4294967296 := by have := H9.out; omega
    clear e1 hx hoj hpt LL eA hmn hm0
    by_cases he : er1 = 0
    ·subst he
     have HR3 : Aa2 (Ah5 k.l f.height f.dead (l.drop m').reverse k.ops = (0, o1)) := ⟨by rw [HR2.out, if_pos rfl]⟩
     go_wp2_with fail
     refine K.mono ?_
     rintro e w2 ⟨rfl, hk⟩
     obtain ⟨S2, a2, c2, hp2⟩ := PP.out.next hk
     have P2 := zA hp2
     clear hk hp2 K y0 y1 y2
     go_wp2_with fail
     go_roundw
     case rel => exact ⟨m', o1, S2, a2, c2, rfl, rfl, by omega, HR3.out, P2.out⟩
     case measure => simp [intOf] <;> omega
    ·have hne : (er1 != 0) = true := by simp [he]
     have HR3 : Aa2 (Ah5 k.l f.height f.dead (l.drop m').reverse k.ops = (er1, oj)) := ⟨by rw [HR2.out, if_neg he]⟩
     have HE := zA he
     clear he
     go_wp2_with fail
     refine K.mono ?_
     rintro e w2 ⟨rfl, hk⟩
     obtain ⟨S2, a2, c2, hp2⟩ := PP.out.next hk
     have P2 := zA hp2
     clear hk hp2 K y0 y1 y2
     go_wp2_with fail
     go_step3
     have h1 : Ah5 k.l f.height f.dead l.reverse k.ops = (er1, oj) := by
      rw [Bn9 l m', Bi4 _ _ _ (by rw [HR3.out]; exact HE.out), HR3.out]
     have h2 := Ba3 h1
     rw [if_neg HE.out] at h2
     have h3 := HP.out.symm.trans h2
     injection h3 with h3 h4
     subst h3 h4
     refine ⟨rfl, _, _, _, _, _, _, _, _, _, _, _, _, _, _, _, _, _, _, _, _, _, _, _, _, _, _, _, _, _, _, _, _, _, _, _, _, _, rfl, HE.out, rfl, P2.out.chg, _, P2.out.st.box⟩
theorem Au4 (h : St D S g k w) (hg : GOk k.l) {f : Fr} (hf : k.frames[k.frames.length - 1]? = some f) (hh : f.height ≤ k.ops.length) (hm : k.ops.length ≤ 4294967296) (hn : k.frames.length ≤ 4294967296) {A : Option Addr} {c : Nat} {l : List S39} (hl : LK k39 (fun x => S x ∨ D x) w (.slice A l.length c) l) (hlm : l.length ≤ 4294967296) {er : Int} {o' : List S39} (hp : Al5 k.l f.height f.dead l k.ops = (er, o')) :
  Calls Tryz.prog 70 #[.pointer (some ⟨g, 0, none⟩), .slice A l.length c] w (KOut D S g { k with ops := o' } (.int .i64 er) w) := by
 obtain ⟨v1, v2, v3, v4, ao, co, af, cf, h⟩ := h
 refine (kPops_kg h hg hf hh hm hn hl hlm hp).mono ?_
 rintro e w' ⟨rfl, hk⟩
 exact ⟨rfl, hk.kst h.own⟩
theorem Bi6 {l : List S132} {h : Nat} {dead : Bool} {xs ops o' : List S39} {er : Int} (hp : Al5 l h dead xs ops = (er, o')) (he : er ≠ 0) : o' = ops := by
 unfold Al5 at hp
 split at hp
 ·rename_i h1
  rw [hp] at h1
  exact absurd h1 he
 ·injection hp with h1 h2
  exact h2.symm
end
section
variable {D S : Nat → Prop} {g : Nat} {k : Chk} {w : World}
theorem Bi9 {v1 v2 v3 v4 : Value} {ao : Option Addr} {co : Nat} {af : Option Addr} {cf : Nat} (h : StV D S g k w v1 v2 v3 v4 ao co af cf) (fr : Fr) {A1 A2 A4 : Option Addr} {c1 c2 c4 : Nat} (h1 : LK k39 (fun x => S x ∨ D x) w (.slice A1 fr.ins.length c1) fr.ins) (h2 : LK k39 (fun x => S x ∨ D x) w (.slice A2 fr.outs.length c2) fr.outs) (h4 : LK Kd.bool (fun x => S x ∨ D x) w (.slice A4 fr.sets.length c4) fr.sets) (hl : k.frames.length ≤ 4294967296) :
  Calls Tryz.prog 65 #[.pointer (some ⟨g, 6, none⟩), .agg #[.int .i64 fr.op, .slice A1 fr.ins.length c1, .slice A2 fr.outs.length c2, .int .i64 fr.height, .slice A4 fr.sets.length c4, .bool fr.dead]] w fun e w' => e = .returned (.tuple #[]) ∧ ∃ S' af' cf', (∀ x, S x → S' x) ∧ (∀ x, S' x → S x ∨ w.heap.size ≤ x) ∧ StV D S' g { k with frames := k.frames ++ [fr] } w' v1 v2 v3 v4 ao co af' cf' ∧ Chg S w w' := by
 obtain ⟨rows, hrl, hcr, hrf⟩ := h.frs
 have hfk : Kd.FK k105 w (fun x => ¬ (S x ∨ D x)) fr.p [.int .i64 fr.op, .slice A1 fr.ins.length c1, .slice A2 fr.outs.length c2, .int .i64 fr.height, .slice A4 fr.sets.length c4, .bool fr.dead] :=
  By7 w _ fr.p h1.reads.2.1 h1.F h2.reads.2.1 h2.F h4.reads.2.1 h4.F
 refine (Bq2 S g 6 _ 102 fr.op fr.height fr.dead A1 A2 A4 fr.ins.length fr.outs.length fr.sets.length c1 c2 c4 af cf rows w h.box (by rw [hrl]; simp) hcr (by decide) (by omega)).mono ?_
 rintro e w' ⟨A', c', rfl, hcr', hbox, hch0⟩
 have hch := hch0.mono (fun x e => .inl (e.imp id And.left))
 have hc := hch.mono (fun x hx => .inl (hx.elim (fun e => e ▸ h.own) (fun e => (hcr.blk x e).1)))
 have hS : ∀ x, S x → (S x ∨ w.heap.size ≤ x ∧ some x = A'.map (·.block)) := fun _ e => .inl e
 have hG : ∀ x, (S x ∨ w.heap.size ≤ x ∧ some x = A'.map (·.block)) → S x ∨ w.heap.size ≤ x := fun x e => e.imp id And.left
 have mv : ∀ {x : Fr} {cs : List Value}, Kd.FK k105 w (fun x => ¬ (S x ∨ D x)) x.p cs → Kd.FK k105 w' (fun x => ¬ ((S x ∨ w.heap.size ≤ x ∧ some x = A'.map (·.block)) ∨ D x)) x.p cs := fun hk =>
  Kd.As1 (Kd.Al0 (Kd.At3 hk) (fun y hy hl => hc.same y hl (fun e => hy.1 (.inl e)))) (fun y hy e => e.elim (fun e => e.elim (fun e => hy.1 (.inl e)) (fun e => by have := hy.2; omega)) (fun e => hy.1 (.inr e)))
 refine ⟨rfl, fun x => S x ∨ w.heap.size ≤ x ∧ some x = A'.map (·.block), A', c', hS, hG, ?_, hc⟩
 refine h.out hc hS hG ?_ rfl rfl rfl (h.set.to hc (fun x e => .inl (.inl e)) (fun x e => e.elim (fun e => e.imp .inl And.left) (fun e => .inl (.inr e)))) ?_ ?_ ⟨rows ++ [[.int .i64 fr.op, .slice A1 fr.ins.length c1, .slice A2 fr.outs.length c2, .int .i64 fr.height, .slice A4 fr.sets.length c4, .bool fr.dead]], by simp [hrl], hcr'.tight.mono (fun y hy => (hcr'.blk y hy).1.imp id (fun l => ⟨l, hy⟩)), fun j x cs hx hcs => ?_⟩
 ·intro x hx
  rcases hx with hx | ⟨_, hx⟩
  ·exact Nat.lt_of_lt_of_le (h.lt x (.inl hx)) hc.size
  ·exact (hcr'.blk x hx).2.1
 ·rw [hbox]
  simp [hrl]
 ·exact h.ops_step hch (fun x hx e => e.elim (fun e => h.ao_ne x hx e) (fun e => (h.af_ne x e).2 hx)) hS
 ·rcases Nat.lt_or_ge j k.frames.length with hj | hj
  ·rw [List.getElem?_append_left hj] at hx
   rw [List.getElem?_append_left (by omega)] at hcs
   exact mv (hrf j x cs hx hcs)
  ·rw [List.getElem?_append_right hj] at hx
   rw [List.getElem?_append_right (by omega), hrl] at hcs
   have hj0 : j - k.frames.length = 0 := by
    have := (List.getElem?_eq_some_iff.1 hx).1
    simp at this
    omega
   rw [hj0] at hx hcs
   simp only [List.getElem?_cons_zero, Option.some.injEq] at hx hcs
   subst hx hcs
   exact mv hfk
set_option maxHeartbeats 8000000 in
theorem As5 (h : St D S g k w) (hg : GOk k.l) {f : Fr} (hf : k.frames[k.frames.length - 1]? = some f) (hh : f.height ≤ k.ops.length) (hm : k.ops.length ≤ 2147483648) (hn : k.frames.length ≤ 2147483648) (op : Int) {A1 A2 : Option Addr} {c1 c2 : Nat} {l1 l2 : List S39} (h1 : LK k39 (fun x => S x ∨ D x) w (.slice A1 l1.length c1) l1) (h2 : LK k39 (fun x => S x ∨ D x) w (.slice A2 l2.length c2) l2) (hl1 : l1.length ≤ 2147483648) (hl2 : l2.length ≤ 2147483648) (hls : k.sets.length ≤ 2147483648) {o' : List S39} (hp : Al5 k.l f.height f.dead l1 k.ops = (0, o')) :
  Calls Tryz.prog 31 #[.pointer (some ⟨g, 0, none⟩), .int .i64 op, .slice A1 l1.length c1, .slice A2 l2.length c2] w (KOut D S g { k with ops := o' ++ l1, frames := k.frames ++ [⟨op, l1, l2, o'.length, k.sets, false⟩] } (.int .i64 0) w) := by
 have K1 := Au4 h hg hf hh (by omega) (by omega) h1 (by omega) hp
 have ho : o'.length ≤ k.ops.length := by have h3 := (Bd2 (l := k.l) (dead := f.dead) l1 k.ops hh).2; rw [hp] at h3; exact h3
 have H1 := zA h1
 have H2 := zA h2
 have HO := zA (And.intro ho (And.intro hm (And.intro hn hls)))
 have HL := zA (And.intro hl1 hl2)
 have HF := zA (show 0 < k.frames.length by have := (List.getElem?_eq_some_iff.1 hf).1; omega)
 obtain ⟨n1, hn1⟩ : ∃ n1, n1 = l1.length := ⟨_, rfl⟩
 obtain ⟨n2, hn2⟩ : ∃ n2, n2 = l2.length := ⟨_, rfl⟩
 obtain ⟨no, hno⟩ : ∃ no, no = o'.length := ⟨_, rfl⟩
 rw [← hn1] at K1 H1 ⊢
 rw [← hn2] at H2 ⊢
 rw [← hno]
 have HN1 := zA hn1
 have HN2 := zA hn2
 have HNO := zA hno
 clear h hg hf hh hm hn h1 h2 hl1 hl2 hls hp ho hn1 hn2 hno
 go_enter Tryz.func31, Tryz.ntmps31
 go_wp2_with fail
 refine K1.mono ?_
 rintro e w2 ⟨rfl, S1, hk⟩
 have Q1 := zA hk
 have L1 := zA (H1.out.kst hk)
 have L2 := zA (H2.out.kst hk)
 obtain ⟨v1, v2, v3, v4, ao, co, af, cf, hst⟩ := hk.st
 have H3 := zA (hst.below (W' := w2.drew) (Below.refl _ _).drew)
 have LI3 := zA (L1.out.below (w' := w2.drew) (Below.refl _ _).drew)
 have LO3 := zA (L2.out.below (w' := w2.drew) (Below.refl _ _).drew)
 have B3 : Aa2 (Below w2.heap.size w2 w2.drew) := ⟨(Below.refl _ _).drew⟩
 clear hk K1 hst
 go_wp2_with fail
 generalize hw3 : World.drew w2 = w3 at H3 LI3 LO3 B3
 have g3 : w3.cell? ⟨g, 3, none⟩ = some v3 := H3.out.c3
 have g5 : w3.cell? ⟨g, 5, none⟩ = some (.slice ao no co) := by have h_ := H3.out.c5; dsimp only at h_; rw [← HNO.out] at h_; exact h_
 refine Ab3 (n := 19) (S := fun w' => w'.cell? ⟨g, 3, none⟩ = some v3 ∧ w'.cell? ⟨g, 5, none⟩ = some (.slice ao no co)) (ds := [18]) (bm_ 19 0) (by kernel_rfl) rfl rfl ⟨(by rw [hw3]; exact g3), (by rw [hw3]; exact g5)⟩ (fun hHeld => ?_)
 rw [hw3] at hHeld ⊢
 clear hw3 g3 g5
 refine pz_ 0 16 19 1 ?_
 refine pz_ 1 17 19 3 ?_
 refine pz_ 2 18 19 7 ?_
 refine pz_ 3 19 19 15 ?_
 refine pz_ 4 20 19 31 ?_
 refine pz_ 6 22 19 95 ?_
 refine pz_ 8 24 19 351 ?_
 refine pz_ 9 25 19 863 ?_
 refine pz_ 10 26 19 1887 ?_
 refine pz_ 12 28 19 5983 ?_
 refine pz_ 13 29 19 14175 ?_
 refine pz_ 14 30 19 30559 ?_
 refine tz_ 15 31 19 63327 hHeld ?_
 refine oz_ 5 21 19 63359 fun K hK => ?_
 refine gz_ Tryz.func50 #[.slice A1 n1 c1] ?_
 with_reducible refine (Ag1 (S' := fun y => S1 y ∨ D y) LI3.out (by have := HL.out; have := HN1.out; omega) H3.out.lt).mono ?_
 rintro e w4 ⟨va, rfl, hla, hb⟩
 obtain ⟨Aa, ca, rfl⟩ := hla.slice
 skip
 have LA4 := zA hla
 have B4 := zA hb
 have H4 := zA (H3.out.below hb)
 have LO4 := zA (LO3.out.below hb)
 have f4 := And.intro (hb.kp hHeld.1) (hb.kp hHeld.2)
 clear hla hb
 refine ⟨_, rfl, ?_⟩
 refine hK.out _ _ ⟨f4.1, f4.2⟩ (fun hHeld => ?_)
 clear hK K
 refine nz_ ?_
 refine oz_ 7 23 19 63487 fun K hK => ?_
 refine gz_ Tryz.func50 #[.slice A2 n2 c2] ?_
 with_reducible refine (Ag1 (S' := fun y => S1 y ∨ D y) LO4.out (by have := HL.out; have := HN2.out; omega) H4.out.lt).mono ?_
 rintro e w5 ⟨vb, rfl, hlb, hb⟩
 obtain ⟨Ab, cb, rfl⟩ := hlb.slice
 have LB5 := zA hlb
 have LA5 := zA (LA4.out.below hb)
 have B5 := zA (B4.out.trans (hb.mono B4.out.size))
 have H5 := zA (H4.out.below hb)
 have f5 := And.intro (hb.kp hHeld.1) (hb.kp hHeld.2)
 clear hlb hb
 refine ⟨_, rfl, ?_⟩
 refine hK.out _ _ ⟨f5.1, f5.2⟩ (fun hHeld => ?_)
 clear hK K
 refine nz_ ?_
 refine oz_ 11 27 19 65535 fun K hK => ?_
 refine gz_ Tryz.func71 #[.pointer (some ⟨g, 5, none⟩)] ?_
 with_reducible refine (Ae5 g 5 ao no co _ hHeld.2).mono ?_
 rintro e w5 ⟨rfl, rfl⟩
 refine ⟨_, rfl, ?_⟩
 refine hK.out _ _ ⟨hHeld.1, hHeld.2⟩ (fun hHeld => ?_)
 clear hK K
 refine nz_ ?_
 refine oz_ 16 32 19 131071 fun K hK => ?_
 refine gz_ Tryz.func66 #[v3] ?_
 with_reducible refine (Ar4 (S' := fun y => S1 y ∨ D y) H5.out.set (by have := HO.out; dsimp only; omega) H5.out.lt).mono ?_
 rintro e w6 ⟨vc, rfl, hlc, hb⟩
 obtain ⟨Ac, cc, rfl⟩ := hlc.slice
 have LC6 := zA hlc
 have LA6 := zA (LA5.out.below hb)
 have LB6 := zA (LB5.out.below hb)
 have B6 := zA (B5.out.trans (hb.mono B5.out.size))
 have H6 := zA (H5.out.below hb)
 have f6 := And.intro (hb.kp hHeld.1) (hb.kp hHeld.2)
 clear hlc hb
 refine ⟨_, rfl, ?_⟩
 refine hK.out _ _ ⟨f6.1, f6.2⟩ (fun hHeld => ?_)
 clear hK K
 refine nz_ ?_
 refine pz_ 17 33 19 262143 ?_
 refine lz_ 18 34 19 524287 fun K hK => ?_
 refine gz_ Tryz.func65 #[.pointer (some ⟨g, 6, none⟩), .agg #[.int .i64 op, .slice Aa l1.length ca, .slice Ab l2.length cb, .int .i64 no, .slice Ac k.sets.length cc, .bool false]] ?_
 with_reducible refine (Bi9 H6.out ⟨op, l1, l2, no, k.sets, false⟩ LA6.out LB6.out LC6.out (by have := HO.out; dsimp only; omega)).mono ?_
 rintro e w7 ⟨rfl, S2, af2, cf2, hs2, hg2, hst2, hch2⟩
 have Q7 := zA ((Q1.out.below (B3.out.trans (B6.out.mono B3.out.size))).trans ⟨hs2, hg2, ⟨_, _, _, _, _, _, _, _, hst2⟩, hch2⟩)
 clear hs2 hg2 hst2 hch2
 refine ⟨_, rfl, ?_⟩
 refine hK.out _ _ ?_
 clear hK K
 refine nz_ ?_
 refine dz_ ?_

 have L7 := H1.out.kst Q7.out
 have K2 := Aj4 Q7.out.st (A := A1) (c := c1) (l := l1) (by rw [← HN1.out]; exact L7) (by dsimp only; rw [List.length_append]; have := HF.out; omega) (by have := HO.out; have := HL.out; dsimp only; omega)
 rw [← HN1.out] at K2
 clear L7
 go_wp2_with fail
 refine K2.mono ?_
 rintro e w8 ⟨rfl, S3, hk3⟩
 have Q8 := zA (Q7.out.trans hk3)
 clear hk3 K2
 go_wp2_with fail
 go_ret
 exact ⟨rfl, S3, Q8.out⟩
theorem Bd9 (h : St D S g k w) (hg : GOk k.l) {f : Fr} (hf : k.frames[k.frames.length - 1]? = some f) (hh : f.height ≤ k.ops.length) (hm : k.ops.length ≤ 2147483648) (hn : k.frames.length ≤ 2147483648) (op : Int) {A1 A2 : Option Addr} {c1 c2 n2 : Nat} {l1 : List S39} (h1 : LK k39 (fun x => S x ∨ D x) w (.slice A1 l1.length c1) l1) (hl1 : l1.length ≤ 2147483648) {er : Int} {o' : List S39} (hp : Al5 k.l f.height f.dead l1 k.ops = (er, o')) (he : er ≠ 0) :
  Calls Tryz.prog 31 #[.pointer (some ⟨g, 0, none⟩), .int .i64 op, .slice A1 l1.length c1, .slice A2 n2 c2] w (KOut D S g k (.int .i64 er) w) := by
 have K1 := Au4 h hg hf hh (by omega) (by omega) h1 (by omega) hp
 have HO := zA (Bi6 hp he)
 have hne : (er != 0) = true := by simp [he]
 obtain ⟨n1, hn1⟩ : ∃ n1, n1 = l1.length := ⟨_, rfl⟩
 rw [← hn1] at K1 ⊢
 clear h hg hf hh hm hn h1 hl1 hp hn1 he
 go_enter Tryz.func31, Tryz.ntmps31
 go_wp2_with fail
 refine K1.mono ?_
 rintro e w2 ⟨rfl, S1, hk⟩
 have Q1 := zA hk
 clear hk K1
 go_wp2_with fail
 go_ret
 exact ⟨rfl, S1, by have h_ := Q1.out; rw [HO.out] at h_; exact h_⟩
def Bx4 (S : Nat → Prop) (r : Int × List S39) (w : World) (e : Ending) (w' : World) : Prop := ∃ A, e = .returned (.tuple #[.slice A r.2.length r.2.length, .int .i64 r.1]) ∧ LK k39 S w' (.slice A r.2.length r.2.length) r.2 ∧ Below w.heap.size w w'
theorem Ci6 (h : St D S g k w) (n : Nat) (hn : k.frames.length ≤ n) (hn2 : n ≤ 4294967295) :
  Calls Tryz.prog 78 #[.pointer (some ⟨g, 0, none⟩), .int .u32 n] w fun e w' => e = .returned (.tuple #[.slice none 0 0, .int .i64 133]) ∧ Below w.heap.size w w' := by
 obtain ⟨v1, v2, v3, v4, ao, co, af, cf, h⟩ := h
 obtain ⟨m, hm⟩ : ∃ m, m = k.frames.length := ⟨_, rfl⟩
 have K0 := Ag4 g w h.c0
 have K1 := Ae6 g 6 af _ cf w h.c6
 rw [← hm] at K1
 have h1 : decide (m ≤ n) = true := by simp; omega
 have h2 : (m : Int) ≤ 9223372036854775807 := by omega
 have h3 : (0 : Int) ≤ (m : Int) := by omega
 have h4 : (n : Int) ≤ 4294967295 := by omega
 clear h hn hm
 go_enter Tryz.func78, Tryz.ntmps78
 go_wp2_with fail
 refine K0.mono ?_
 rintro e w ⟨rfl, rfl⟩
 clear K0
 go_wp2_with fail
 refine K1.mono ?_
 rintro e w ⟨rfl, rfl⟩
 clear K1
 go_wp2_with fail
 go_ret2
 exact ⟨rfl, Below.refl _ _⟩
theorem wr1 (m : Nat) (h : 1 ≤ m) (h2 : m ≤ 4294967296) : wrap64 ((m : Int) - 1) = (m : Int) - 1 := by unfold wrap64; omega
theorem wr2 (m n i : Nat) (hi : i = m - 1 - n) (h : n < m) (h2 : m ≤ 4294967296) : wrap64 ((m : Int) - 1 - (n : Int)) = (i : Int) := by unfold wrap64; omega
theorem wr4 (n : Nat) (h : n ≤ 4294967296) : wrap64 (n : Int) = (n : Int) := by unfold wrap64; omega
set_option maxHeartbeats 4000000 in
theorem Bw0 (h : St D S g k w) (n : Nat) (hn : n < k.frames.length) (hn2 : k.frames.length ≤ 4294967296) {f : Fr} (hf : k.frames[k.frames.length - 1 - n]? = some f) (hop : f.op = 3) (hl : f.ins.length ≤ 1099511627776) :
  Calls Tryz.prog 78 #[.pointer (some ⟨g, 0, none⟩), .int .u32 n] w (Bx4 (fun x => S x ∨ D x) (0, f.ins) w) := by
 obtain ⟨v1, v2, v3, v4, ao, co, af, cf, h⟩ := h
 obtain ⟨m, hm⟩ : ∃ m, m = k.frames.length := ⟨_, rfl⟩
 obtain ⟨i, hi⟩ : ∃ i, i = k.frames.length - 1 - n := ⟨_, rfl⟩
 rw [← hi] at hf
 obtain ⟨b, A1, c1, A2, c2, A4, c4, rfl, ha⟩ := h.frs.at hf
 have K0 := Ag4 g w h.c0
 have c6 := h.c6
 rw [← hm] at c6
 have K1 := Ae6 g 6 _ _ cf w c6
 have h1 : decide (m ≤ n) = false := by simp; omega
 have h2 : (m : Int) ≤ 9223372036854775807 := by omega
 have h3 : (0 : Int) ≤ (m : Int) := by omega
 have h4 : (n : Int) ≤ 4294967295 := by omega
 have hi1 : ((i : Int) < (m : Int)) = True := by simp; omega
 have hw4 := wr4 n (by omega)
 have hw1 := wr1 m (by omega) (by omega)
 have hw2 := wr2 m n i (by rw [hi, hm]) (by rw [hm]; exact hn) (by rw [hm]; exact hn2)
 have f0 := ha.op
 have f1 := ha.ins
 have f2 := ha.outs
 have f3 := ha.height
 have f4 := ha.sets
 have f5 := ha.dead
 have HST := zA h
 have HA := zA ha
 have HL := zA hl
 have hope : (f.op == 3) = true := by simp [hop]
 clear h hn hm hi hf ha hl hn2 hop
 go_enter Tryz.func78, Tryz.ntmps78
 go_wp2_with fail
 refine K0.mono ?_
 rintro e w ⟨rfl, rfl⟩
 clear K0
 go_wp2_with fail
 refine K1.mono ?_
 rintro e w ⟨rfl, rfl⟩
 clear K1
 go_wp2_with fail
 obtain ⟨w5, hw5⟩ : ∃ w5, World.drew w = w5 := ⟨_, rfl⟩
 have B5 : Aa2 (Below w.heap.size w w5) := ⟨by rw [← hw5]; exact (Below.refl _ _).drew⟩
 refine Ab3 (n := 17) (S := fun w' => w'.cell? ⟨g, 6, none⟩ = some (.slice (some ⟨b, 0, none⟩) m cf) ∧ w'.cell? ⟨b, i * 6, none⟩ = some (.int .i64 f.op) ∧ w'.cell? ⟨b, i * 6 + 1, none⟩ = some (.slice A1 f.ins.length c1) ∧ w'.cell? ⟨b, i * 6 + 2, none⟩ = some (.slice A2 f.outs.length c2) ∧ w'.cell? ⟨b, i * 6 + 3, none⟩ = some (.int .i64 f.height) ∧ w'.cell? ⟨b, i * 6 + 4, none⟩ = some (.slice A4 f.sets.length c4) ∧ w'.cell? ⟨b, i * 6 + 5, none⟩ = some (.bool f.dead)) (ds := [16]) (bm_ 17 0) (by kernel_rfl) rfl rfl ⟨c6, f0, f1, f2, f3, f4, f5⟩ (fun hHeld => ?_)
 rw [hw5] at hHeld ⊢
 clear hw5
 refine pz_ 0 17 17 1 ?_
 refine pz_ 1 18 17 3 ?_
 refine pz_ 2 19 17 7 ?_
 refine pz_ 3 20 17 15 ?_
 refine pz_ 5 22 17 47 ?_
 refine pz_ 6 23 17 111 ?_
 refine pz_ 7 24 17 239 ?_
 refine pz_ 10 27 17 1263 ?_
 refine pz_ 11 28 17 3311 ?_
 refine tz_ 4 21 17 3327 hHeld ?_
 refine join_ (σ := Unit) 1 (bm_ 17 65535) (fun _ => [(25, .int .i64 m), (6, .pointer (some ⟨w5.heap.size, 0, none⟩)), (26, .int .i64 (wrap64 ((m : Int) - 1))), (29, .int .i64 (wrap64 ((m : Int) - 1 - (n : Int)))), (30, .pointer (some ⟨b, i * 6, none⟩)), (31, .agg #[.int .i64 f.op, .slice A1 f.ins.length c1, .slice A2 f.outs.length c2, .int .i64 f.height, .slice A4 f.sets.length c4, .bool f.dead])]) (fun _ w' => w' = w5.alloc (.cells #[.int .i64 0, .slice none 0 0, .slice none 0 0, .int .i64 0, .slice none 0 0, .bool false] 105)) ?_ ?_
 rotate_left
 ·intro hCont
  refine two_ (i := 8) (j := 15) (Ni := some 25) (Nj := some 6) (bm_ 17 3583) (bm_ 17 36095) rfl rfl rfl rfl (by kernel_rfl) (by decide) (by decide) (fun K hK => ?_) (fun K hK => ?_)
  ·skip
   refine gz_ Tryz.func51 #[.pointer (some ⟨g, 6, none⟩)] ?_
   with_reducible refine (Ae6 g 6 _ m cf _ hHeld.1).mono ?_
   rintro e w5 ⟨rfl, rfl⟩
   refine ⟨_, rfl, ?_⟩
   refine hK.out _ _ ⟨hHeld.1, hHeld.2.1, hHeld.2.2.1, hHeld.2.2.2.1, hHeld.2.2.2.2.1, hHeld.2.2.2.2.2.1, hHeld.2.2.2.2.2.2⟩ (fun hHeld => ?_)
   clear hK K
   refine nz_ ?_
   refine pz_ 9 26 17 4095 ?_
   refine pz_ 12 29 17 8191 ?_
   refine pz_ 13 30 17 16383 ?_
   refine tz_ 14 31 17 32767 hHeld ?_
   refine oz_ 15 6 17 65535 fun K hK => ?_
   refine vz_ ?_
   have hHeld' := hHeld
   refine hK.out _ _ ⟨(World.cell?_of_block (Below.heap_alloc w5 _ _ (World.block_lt_of_cell? _ _ hHeld.1))).trans hHeld.1, (World.cell?_of_block (Below.heap_alloc w5 _ _ (World.block_lt_of_cell? _ _ hHeld.2.1))).trans hHeld.2.1, (World.cell?_of_block (Below.heap_alloc w5 _ _ (World.block_lt_of_cell? _ _ hHeld.2.2.1))).trans hHeld.2.2.1, (World.cell?_of_block (Below.heap_alloc w5 _ _ (World.block_lt_of_cell? _ _ hHeld.2.2.2.1))).trans hHeld.2.2.2.1, (World.cell?_of_block (Below.heap_alloc w5 _ _ (World.block_lt_of_cell? _ _ hHeld.2.2.2.2.1))).trans hHeld.2.2.2.2.1, (World.cell?_of_block (Below.heap_alloc w5 _ _ (World.block_lt_of_cell? _ _ hHeld.2.2.2.2.2.1))).trans hHeld.2.2.2.2.2.1, (World.cell?_of_block (Below.heap_alloc w5 _ _ (World.block_lt_of_cell? _ _ hHeld.2.2.2.2.2.2))).trans hHeld.2.2.2.2.2.2⟩ (fun hHeld => ?_)
   clear hK K
   refine nz_ ?_
   exact Aq9 (by simp only [Aj0, Act.put, List.setIfInBounds_toArray, List.set_cons_zero, List.set_cons_succ]) (hCont () _ rfl)
  ·skip
   refine vz_ ?_
   have hHeld' := hHeld
   refine hK.out _ _ ⟨(World.cell?_of_block (Below.heap_alloc w5 _ _ (World.block_lt_of_cell? _ _ hHeld.1))).trans hHeld.1, (World.cell?_of_block (Below.heap_alloc w5 _ _ (World.block_lt_of_cell? _ _ hHeld.2.1))).trans hHeld.2.1, (World.cell?_of_block (Below.heap_alloc w5 _ _ (World.block_lt_of_cell? _ _ hHeld.2.2.1))).trans hHeld.2.2.1, (World.cell?_of_block (Below.heap_alloc w5 _ _ (World.block_lt_of_cell? _ _ hHeld.2.2.2.1))).trans hHeld.2.2.2.1, (World.cell?_of_block (Below.heap_alloc w5 _ _ (World.block_lt_of_cell? _ _ hHeld.2.2.2.2.1))).trans hHeld.2.2.2.2.1, (World.cell?_of_block (Below.heap_alloc w5 _ _ (World.block_lt_of_cell? _ _ hHeld.2.2.2.2.2.1))).trans hHeld.2.2.2.2.2.1, (World.cell?_of_block (Below.heap_alloc w5 _ _ (World.block_lt_of_cell? _ _ hHeld.2.2.2.2.2.2))).trans hHeld.2.2.2.2.2.2⟩ (fun hHeld => ?_)
   clear hK K
   refine nz_ ?_
   refine oz_ 8 25 17 36351 fun K hK => ?_
   refine gz_ Tryz.func51 #[.pointer (some ⟨g, 6, none⟩)] ?_
   with_reducible refine (Ae6 g 6 _ m cf _ hHeld.1).mono ?_
   rintro e w5 ⟨rfl, rfl⟩
   refine ⟨_, rfl, ?_⟩
   refine hK.out _ _ ⟨hHeld.1, hHeld.2.1, hHeld.2.2.1, hHeld.2.2.2.1, hHeld.2.2.2.2.1, hHeld.2.2.2.2.2.1, hHeld.2.2.2.2.2.2⟩ (fun hHeld => ?_)
   clear hK K
   refine nz_ ?_
   refine pz_ 9 26 17 36863 ?_
   refine pz_ 12 29 17 40959 ?_
   refine pz_ 13 30 17 49151 ?_
   refine tz_ 14 31 17 65535 hHeld ?_
   exact Aq9 (by simp only [Aj0, Act.put, List.setIfInBounds_toArray, List.set_cons_zero, List.set_cons_succ]) (hCont () _ rfl)
 rintro ⟨⟩ w6 rfl
 refine Aq9 (a' := ?_) ?_ ?_
 rotate_left
 ·simp only [Aj0, Act.put, List.setIfInBounds_toArray, List.set_cons_zero, List.set_cons_succ]
  rfl
 refine Ag8 (i := 16) (N := none) (bm_ 17 131071) rfl rfl (by kernel_rfl) (by decide) (fun K hK => ?_)
 refine sz_ ?_
 refine hK.out _ _ ?_
 clear hK K
 refine dz_ ?_

 have B6 : Aa2 (Below w.heap.size w (w5.alloc (.cells #[.int .i64 f.op, .slice A1 f.ins.length c1, .slice A2 f.outs.length c2, .int .i64 f.height, .slice A4 f.sets.length c4, .bool f.dead] 105))) := ⟨B5.out.trans ((Below.refl _ _).alloc B5.out.size _)⟩
 have K2 := Ar3 (S' := fun x => S x ∨ D x) (HA.out.lk1.below B6.out) HL.out (fun x e => Nat.lt_of_lt_of_le (HST.out.lt x e) B6.out.size)
 clear h1 h2 h3 h4 hw1 hw2 hw4 hi1 c6 f0 f1 f2 f3 f4 f5
 go_wp2_with fail
 refine K2.mono ?_
 rintro e w7 ⟨A7, rfl, hv, hb⟩
 have F := zA (And.intro hv (B6.out.trans (hb.mono B6.out.size)))
 clear hv hb K2
 go_wp2_with fail
 go_ret2
 exact ⟨A7, rfl, F.out.1, F.out.2⟩
set_option maxHeartbeats 4000000 in
theorem Cc9 (h : St D S g k w) (n : Nat) (hn : n < k.frames.length) (hn2 : k.frames.length ≤ 4294967296) {f : Fr} (hf : k.frames[k.frames.length - 1 - n]? = some f) (hop : ¬ f.op = 3) (hl : f.outs.length ≤ 1099511627776) :
  Calls Tryz.prog 78 #[.pointer (some ⟨g, 0, none⟩), .int .u32 n] w (Bx4 (fun x => S x ∨ D x) (0, f.outs) w) := by
 obtain ⟨v1, v2, v3, v4, ao, co, af, cf, h⟩ := h
 obtain ⟨m, hm⟩ : ∃ m, m = k.frames.length := ⟨_, rfl⟩
 obtain ⟨i, hi⟩ : ∃ i, i = k.frames.length - 1 - n := ⟨_, rfl⟩
 rw [← hi] at hf
 obtain ⟨b, A1, c1, A2, c2, A4, c4, rfl, ha⟩ := h.frs.at hf
 have K0 := Ag4 g w h.c0
 have c6 := h.c6
 rw [← hm] at c6
 have K1 := Ae6 g 6 _ _ cf w c6
 have h1 : decide (m ≤ n) = false := by simp; omega
 have h2 : (m : Int) ≤ 9223372036854775807 := by omega
 have h3 : (0 : Int) ≤ (m : Int) := by omega
 have h4 : (n : Int) ≤ 4294967295 := by omega
 have hi1 : ((i : Int) < (m : Int)) = True := by simp; omega
 have hw4 := wr4 n (by omega)
 have hw1 := wr1 m (by omega) (by omega)
 have hw2 := wr2 m n i (by rw [hi, hm]) (by rw [hm]; exact hn) (by rw [hm]; exact hn2)
 have f0 := ha.op
 have f1 := ha.ins
 have f2 := ha.outs
 have f3 := ha.height
 have f4 := ha.sets
 have f5 := ha.dead
 have HST := zA h
 have HA := zA ha
 have HL := zA hl
 have hope : (f.op == 3) = false := by simp [hop]
 clear h hn hm hi hf ha hl hn2 hop
 go_enter Tryz.func78, Tryz.ntmps78
 go_wp2_with fail
 refine K0.mono ?_
 rintro e w ⟨rfl, rfl⟩
 clear K0
 go_wp2_with fail
 refine K1.mono ?_
 rintro e w ⟨rfl, rfl⟩
 clear K1
 go_wp2_with fail
 obtain ⟨w5, hw5⟩ : ∃ w5, World.drew w = w5 := ⟨_, rfl⟩
 have B5 : Aa2 (Below w.heap.size w w5) := ⟨by rw [← hw5]; exact (Below.refl _ _).drew⟩
 refine Ab3 (n := 17) (S := fun w' => w'.cell? ⟨g, 6, none⟩ = some (.slice (some ⟨b, 0, none⟩) m cf) ∧ w'.cell? ⟨b, i * 6, none⟩ = some (.int .i64 f.op) ∧ w'.cell? ⟨b, i * 6 + 1, none⟩ = some (.slice A1 f.ins.length c1) ∧ w'.cell? ⟨b, i * 6 + 2, none⟩ = some (.slice A2 f.outs.length c2) ∧ w'.cell? ⟨b, i * 6 + 3, none⟩ = some (.int .i64 f.height) ∧ w'.cell? ⟨b, i * 6 + 4, none⟩ = some (.slice A4 f.sets.length c4) ∧ w'.cell? ⟨b, i * 6 + 5, none⟩ = some (.bool f.dead)) (ds := [16]) (bm_ 17 0) (by kernel_rfl) rfl rfl ⟨c6, f0, f1, f2, f3, f4, f5⟩ (fun hHeld => ?_)
 rw [hw5] at hHeld ⊢
 clear hw5
 refine pz_ 0 17 17 1 ?_
 refine pz_ 1 18 17 3 ?_
 refine pz_ 2 19 17 7 ?_
 refine pz_ 3 20 17 15 ?_
 refine pz_ 5 22 17 47 ?_
 refine pz_ 6 23 17 111 ?_
 refine pz_ 7 24 17 239 ?_
 refine pz_ 10 27 17 1263 ?_
 refine pz_ 11 28 17 3311 ?_
 refine tz_ 4 21 17 3327 hHeld ?_
 refine join_ (σ := Unit) 1 (bm_ 17 65535) (fun _ => [(25, .int .i64 m), (6, .pointer (some ⟨w5.heap.size, 0, none⟩)), (26, .int .i64 (wrap64 ((m : Int) - 1))), (29, .int .i64 (wrap64 ((m : Int) - 1 - (n : Int)))), (30, .pointer (some ⟨b, i * 6, none⟩)), (31, .agg #[.int .i64 f.op, .slice A1 f.ins.length c1, .slice A2 f.outs.length c2, .int .i64 f.height, .slice A4 f.sets.length c4, .bool f.dead])]) (fun _ w' => w' = w5.alloc (.cells #[.int .i64 0, .slice none 0 0, .slice none 0 0, .int .i64 0, .slice none 0 0, .bool false] 105)) ?_ ?_
 rotate_left
 ·intro hCont
  refine two_ (i := 8) (j := 15) (Ni := some 25) (Nj := some 6) (bm_ 17 3583) (bm_ 17 36095) rfl rfl rfl rfl (by kernel_rfl) (by decide) (by decide) (fun K hK => ?_) (fun K hK => ?_)
  ·skip
   refine gz_ Tryz.func51 #[.pointer (some ⟨g, 6, none⟩)] ?_
   with_reducible refine (Ae6 g 6 _ m cf _ hHeld.1).mono ?_
   rintro e w5 ⟨rfl, rfl⟩
   refine ⟨_, rfl, ?_⟩
   refine hK.out _ _ ⟨hHeld.1, hHeld.2.1, hHeld.2.2.1, hHeld.2.2.2.1, hHeld.2.2.2.2.1, hHeld.2.2.2.2.2.1, hHeld.2.2.2.2.2.2⟩ (fun hHeld => ?_)
   clear hK K
   refine nz_ ?_
   refine pz_ 9 26 17 4095 ?_
   refine pz_ 12 29 17 8191 ?_
   refine pz_ 13 30 17 16383 ?_
   refine tz_ 14 31 17 32767 hHeld ?_
   refine oz_ 15 6 17 65535 fun K hK => ?_
   refine vz_ ?_
   have hHeld' := hHeld
   refine hK.out _ _ ⟨(World.cell?_of_block (Below.heap_alloc w5 _ _ (World.block_lt_of_cell? _ _ hHeld.1))).trans hHeld.1, (World.cell?_of_block (Below.heap_alloc w5 _ _ (World.block_lt_of_cell? _ _ hHeld.2.1))).trans hHeld.2.1, (World.cell?_of_block (Below.heap_alloc w5 _ _ (World.block_lt_of_cell? _ _ hHeld.2.2.1))).trans hHeld.2.2.1, (World.cell?_of_block (Below.heap_alloc w5 _ _ (World.block_lt_of_cell? _ _ hHeld.2.2.2.1))).trans hHeld.2.2.2.1, (World.cell?_of_block (Below.heap_alloc w5 _ _ (World.block_lt_of_cell? _ _ hHeld.2.2.2.2.1))).trans hHeld.2.2.2.2.1, (World.cell?_of_block (Below.heap_alloc w5 _ _ (World.block_lt_of_cell? _ _ hHeld.2.2.2.2.2.1))).trans hHeld.2.2.2.2.2.1, (World.cell?_of_block (Below.heap_alloc w5 _ _ (World.block_lt_of_cell? _ _ hHeld.2.2.2.2.2.2))).trans hHeld.2.2.2.2.2.2⟩ (fun hHeld => ?_)
   clear hK K
   refine nz_ ?_
   exact Aq9 (by simp only [Aj0, Act.put, List.setIfInBounds_toArray, List.set_cons_zero, List.set_cons_succ]) (hCont () _ rfl)
  ·skip
   refine vz_ ?_
   have hHeld' := hHeld
   refine hK.out _ _ ⟨(World.cell?_of_block (Below.heap_alloc w5 _ _ (World.block_lt_of_cell? _ _ hHeld.1))).trans hHeld.1, (World.cell?_of_block (Below.heap_alloc w5 _ _ (World.block_lt_of_cell? _ _ hHeld.2.1))).trans hHeld.2.1, (World.cell?_of_block (Below.heap_alloc w5 _ _ (World.block_lt_of_cell? _ _ hHeld.2.2.1))).trans hHeld.2.2.1, (World.cell?_of_block (Below.heap_alloc w5 _ _ (World.block_lt_of_cell? _ _ hHeld.2.2.2.1))).trans hHeld.2.2.2.1, (World.cell?_of_block (Below.heap_alloc w5 _ _ (World.block_lt_of_cell? _ _ hHeld.2.2.2.2.1))).trans hHeld.2.2.2.2.1, (World.cell?_of_block (Below.heap_alloc w5 _ _ (World.block_lt_of_cell? _ _ hHeld.2.2.2.2.2.1))).trans hHeld.2.2.2.2.2.1, (World.cell?_of_block (Below.heap_alloc w5 _ _ (World.block_lt_of_cell? _ _ hHeld.2.2.2.2.2.2))).trans hHeld.2.2.2.2.2.2⟩ (fun hHeld => ?_)
   clear hK K
   refine nz_ ?_
   refine oz_ 8 25 17 36351 fun K hK => ?_
   refine gz_ Tryz.func51 #[.pointer (some ⟨g, 6, none⟩)] ?_
   with_reducible refine (Ae6 g 6 _ m cf _ hHeld.1).mono ?_
   rintro e w5 ⟨rfl, rfl⟩
   refine ⟨_, rfl, ?_⟩
   refine hK.out _ _ ⟨hHeld.1, hHeld.2.1, hHeld.2.2.1, hHeld.2.2.2.1, hHeld.2.2.2.2.1, hHeld.2.2.2.2.2.1, hHeld.2.2.2.2.2.2⟩ (fun hHeld => ?_)
   clear hK K
   refine nz_ ?_
   refine pz_ 9 26 17 36863 ?_
   refine pz_ 12 29 17 40959 ?_
   refine pz_ 13 30 17 49151 ?_
   refine tz_ 14 31 17 65535 hHeld ?_
   exact Aq9 (by simp only [Aj0, Act.put, List.setIfInBounds_toArray, List.set_cons_zero, List.set_cons_succ]) (hCont () _ rfl)
 rintro ⟨⟩ w6 rfl
 refine Aq9 (a' := ?_) ?_ ?_
 rotate_left
 ·simp only [Aj0, Act.put, List.setIfInBounds_toArray, List.set_cons_zero, List.set_cons_succ]
  rfl
 refine Ag8 (i := 16) (N := none) (bm_ 17 131071) rfl rfl (by kernel_rfl) (by decide) (fun K hK => ?_)
 refine sz_ ?_
 refine hK.out _ _ ?_
 clear hK K
 refine dz_ ?_

 have B6 : Aa2 (Below w.heap.size w (w5.alloc (.cells #[.int .i64 f.op, .slice A1 f.ins.length c1, .slice A2 f.outs.length c2, .int .i64 f.height, .slice A4 f.sets.length c4, .bool f.dead] 105))) := ⟨B5.out.trans ((Below.refl _ _).alloc B5.out.size _)⟩
 have K2 := Ar3 (S' := fun x => S x ∨ D x) (HA.out.lk2.below B6.out) HL.out (fun x e => Nat.lt_of_lt_of_le (HST.out.lt x e) B6.out.size)
 clear h1 h2 h3 h4 hw1 hw2 hw4 hi1 c6 f0 f1 f2 f3 f4 f5
 go_wp2_with fail
 refine K2.mono ?_
 rintro e w7 ⟨A7, rfl, hv, hb⟩
 have F := zA (And.intro hv (B6.out.trans (hb.mono B6.out.size)))
 clear hv hb K2
 go_wp2_with fail
 go_ret2
 exact ⟨A7, rfl, F.out.1, F.out.2⟩
def Cm8 (S : Nat → Prop) (r : Int × List S39) (w : World) (e : Ending) (w' : World) : Prop := ∃ v, e = .returned (.tuple #[v, .int .i64 r.1]) ∧ LK k39 S w' v r.2 ∧ Below w.heap.size w w'
theorem Bw1 (h : St D S g k w) (n : Nat) (hn : n ≤ 4294967295) (hn2 : k.frames.length ≤ 4294967295) (hl : ∀ f ∈ k.frames, f.ins.length ≤ 1099511627776 ∧ f.outs.length ≤ 1099511627776) :
  Calls Tryz.prog 78 #[.pointer (some ⟨g, 0, none⟩), .int .u32 n] w (Bx4 (fun x => S x ∨ D x) (labM k.frames n) w) := by
 unfold labM
 by_cases h1 : n < k.frames.length
 ·rw [dif_pos h1]
  have hi : k.frames.length - 1 - n < k.frames.length := by omega
  have hf : k.frames[k.frames.length - 1 - n]? = some (k.frames[k.frames.length - 1 - n]) := List.getElem?_eq_getElem hi
  have hm := hl _ (List.getElem_mem hi)
  by_cases hop : (k.frames[k.frames.length - 1 - n]).op = 3
  ·rw [if_pos hop]
   exact Bw0 h n h1 (by omega) hf hop hm.1
  ·rw [if_neg hop]
   exact Cc9 h n h1 (by omega) hf hop hm.2
 ·rw [dif_neg h1]
  refine (Ci6 h n (by omega) hn).mono ?_
  rintro e w' ⟨rfl, hb⟩
  exact ⟨none, rfl, LK.nil _ _ _, hb⟩
theorem Bq4 (h : St D S g k w) (n : Nat) (hn : n ≤ 4294967295) (hn2 : k.frames.length ≤ 4294967295) (hl : ∀ f ∈ k.frames, f.ins.length ≤ 1099511627776 ∧ f.outs.length ≤ 1099511627776) :
  Calls Tryz.prog 78 #[.pointer (some ⟨g, 0, none⟩), .int .u32 n] w (Cm8 (fun x => S x ∨ D x) (labM k.frames n) w) :=
 (Bw1 h n hn hn2 hl).mono (fun e w' ⟨A, e1, h1, h2⟩ => ⟨_, e1, h1, h2⟩)
end
def Ob (A : Option Addr) (y : Nat) : Prop := some y = A.map (·.block)
structure KO (S : Nat → Prop) (w : World) (l : List S132) (A : Option Addr) (c : Nat) (W : World) : Prop where
 bel : Below w.heap.size w W
 row : ∃ rows, rows.length = l.length ∧ CR 2 132 (Ob A) W A c rows ∧ ∀ (j : Nat) (x : S132) (cs : List Value), l[j]? = some x → rows[j]? = some cs → Kd.FK k132 W (fun y => ¬ (S y ∨ Ob A y)) x cs
 new : ∀ y, Ob A y → w.heap.size ≤ y
structure KJ (S : Nat → Prop) (w : World) (l : List S132) (A : Option Addr) (c : Nat) (i : Nat) (x : S132) (A' : Option Addr) (c' : Nat) (W : World) : Prop where
 bel : Below w.heap.size w W
 row : ∃ rows, rows.length = l.length ∧ CR 2 132 (Ob A) W A c rows ∧ rows[i]? = some [.slice A' x.f0.length c', .bool x.f1] ∧ ∀ (j : Nat) (x : S132) (cs : List Value), j ≠ i → l[j]? = some x → rows[j]? = some cs → Kd.FK k132 W (fun y => ¬ (S y ∨ Ob A y ∨ Ob A' y)) x cs
 new : ∀ y, Ob A y → w.heap.size ≤ y
 new' : ∀ y, Ob A' y → w.heap.size ≤ y
 inn : ∃ rs, rs.length = x.f0.length ∧ CR 6 123 (Ob A') W A' c' rs ∧ ∀ (j : Nat) (y : S123) (cs : List Value), x.f0[j]? = some y → rs[j]? = some cs → Kd.FK k123 W (fun y => ¬ (S y ∨ Ob A y ∨ Ob A' y)) y cs
section
variable {S : Nat → Prop} {w W W' : World} {l : List S132} {A A' : Option Addr} {c c' i : Nat} {x : S132}
theorem KO.start {v : Value} (h : Am7 k132 132 S l w (.returned v) W) (hS : ∀ y, S y → y < w.heap.size) : ∃ A c, v = .slice A l.length c ∧ KO S w l A c W := by
 obtain ⟨v', rows, e1, hl, hr, hf, hb⟩ := h
 injection e1 with e1
 subst e1
 obtain ⟨A, c, rfl, hc⟩ := CR.fresh (Kd.Ak4 hr (Nat.zero_le _))
 have hn : ∀ y, Ob A y → w.heap.size ≤ y := fun y hy => Kd.Ar9 hr y (by rw [Cg6]; exact hy.symm)
 refine ⟨A, c, by rw [hl], hb, ⟨rows, hl, hc.tight, fun j x cs hx hcs => ?_⟩, hn⟩
 exact Kd.As1 (Kd.An5 (Kd.At3 (hf j x cs hx hcs)) hb) (fun y hy e => e.elim hy.1 (fun e => by have := hn y e; have := hy.2; omega))
theorem KO.elem (h : KO S w l A c W) (hx : l[i]? = some x) : ∃ o Ai ci, A = some ⟨o, 0, none⟩ ∧ W.cell? ⟨o, i * 2, none⟩ = some (.slice Ai x.f0.length ci) ∧ W.frozen? ⟨o, i * 2, none⟩ = false ∧ LK k123 (fun y => S y ∨ Ob A y) W (.slice Ai x.f0.length ci) x.f0 := by
 obtain ⟨rows, hl, hr, hf⟩ := h.row
 have hil := (List.getElem?_eq_some_iff.1 hx).1
 have hi : rows[i]? = some rows[i] := List.getElem?_eq_getElem (by omega)
 obtain ⟨o, cells, rfl, ho, hcell⟩ := hr.at0 hi
 obtain ⟨A0, c0, e1, l0, g0⟩ := Bj0 (hf i x _ hx hi)
 rw [e1] at hcell
 exact ⟨o, A0, c0, rfl, hcell 0 _ rfl, Aa1 ho _, LK.mk l0 g0⟩
theorem KJ.start {o : Nat} {v : Value} (h : KO S w l (some ⟨o, 0, none⟩) c W) (hx : l[i]? = some x) (hc : Am7 k123 123 (fun y => S y ∨ Ob (some ⟨o, 0, none⟩) y) x.f0 W (.returned v) W') (hS : ∀ y, S y → y < w.heap.size) : ∃ A' c', v = .slice A' x.f0.length c' ∧ KJ S w l (some ⟨o, 0, none⟩) c i x A' c' (W'.setCell ⟨o, i * 2, none⟩ v) := by
 obtain ⟨v', rs, e1, hl, hr, hf, hb⟩ := hc
 injection e1 with e1
 subst e1
 obtain ⟨A', c', rfl, hc⟩ := CR.fresh (Kd.Ak4 hr (Nat.zero_le _))
 have hn : ∀ y, Ob A' y → W.heap.size ≤ y := fun y hy => Kd.Ar9 hr y (by rw [Cg6]; exact hy.symm)
 obtain ⟨rows, hrl, hrr, hrf⟩ := h.row
 have hil := (List.getElem?_eq_some_iff.1 hx).1
 have hi : rows[i]? = some rows[i] := List.getElem?_eq_getElem (by omega)
 obtain ⟨A0, c0, e0, l0, g0⟩ := Bj0 (hrf i x _ hx hi)
 have ho := hrr.blk o rfl
 have hne : ∀ y, Ob A' y → y ≠ o := fun y hy e => by have := hn y hy; have := ho.2.1; omega
 refine ⟨A', c', by rw [hl], (h.bel.trans (hb.mono h.bel.size)).setCell (p := ⟨o, i * 2, none⟩) (h.new o rfl) _, ⟨rows.set i [.slice A' x.f0.length c', .bool x.f1], by rw [List.length_set, hrl], ?_, by rw [List.getElem?_set_self (by omega)], fun j y cs hji hy hcs => ?_⟩, h.new, fun y hy => Nat.le_trans h.bel.size (hn y hy), ⟨rs, hl, ?_, fun j y cs hy hcs => ?_⟩⟩
 ·have h1 := (hrr.step (W' := W') (fun k _ hk => hb.block k hk)).put hi (j := 0) (by decide) (.slice A' rs.length c') rfl
  rw [e0] at h1
  rw [hl] at h1
  rw [hl]
  exact h1
 ·rw [List.getElem?_set_ne (fun e => hji e.symm)] at hcs
  have h1 := Kd.An5 (Kd.At3 (hrf j y cs hy hcs)) hb
  exact Kd.As1 (Kd.Al0 h1 (fun k hk _ => Below.heap_setCell W' ⟨o, i * 2, none⟩ _ k (fun e => hk.1 (.inr (by have e' : k = o := e; rw [e']; rfl))))) (fun k hk e => e.elim (fun e => hk.1 (.inl e)) (fun e => e.elim (fun e => hk.1 (.inr e)) (fun e => by have := hn k e; have := hk.2; omega)))
 ·exact hc.tight.step (fun k hk _ => Below.heap_setCell W' ⟨o, i * 2, none⟩ _ k (fun e => hne k hk e))
 ·have h1 := Kd.An5 (Kd.At3 (hf j y cs hy hcs)) hb
  exact Kd.As1 (Kd.Al0 h1 (fun k hk _ => Below.heap_setCell W' ⟨o, i * 2, none⟩ _ k (fun e => hk.1 (.inr (by have e' : k = o := e; rw [e']; rfl))))) (fun k hk e => e.elim (fun e => hk.1 (.inl e)) (fun e => e.elim (fun e => hk.1 (.inr e)) (fun e => by have := hn k e; have := hk.2; omega)))
theorem KJ.below (h : KJ S w l A c i x A' c' W) (hb : Below W.heap.size W W') : KJ S w l A c i x A' c' W' := by
 obtain ⟨rows, h1, h2, h3, h4⟩ := h.row
 obtain ⟨rs, g1, g2, g3⟩ := h.inn
 exact ⟨h.bel.trans (hb.mono h.bel.size), ⟨rows, h1, h2.step (fun k _ hk => hb.block k hk), h3, fun j y cs a b d => Kd.An5 (h4 j y cs a b d) hb⟩, h.new, h.new', ⟨rs, g1, g2.step (fun k _ hk => hb.block k hk), fun j y cs a b => Kd.An5 (g3 j y cs a b) hb⟩⟩
theorem KJ.ne (h : KJ S w l A c i x A' c' W) : ∀ y, Ob A y → ¬ Ob A' y := by
 obtain ⟨rows, h1, h2, h3, h4⟩ := h.row
 obtain ⟨rs, g1, g2, g3⟩ := h.inn
 intro y hy hy'
 obtain ⟨_, _, cs, hc⟩ := h2.blk y hy
 exact g2.ne hc (by decide) hy'
theorem KJ.cell (h : KJ S w l A c i x A' c' W) : ∃ o, A = some ⟨o, 0, none⟩ ∧ W.cell? ⟨o, i * 2, none⟩ = some (.slice A' x.f0.length c') := by
 obtain ⟨rows, h1, h2, h3, h4⟩ := h.row
 obtain ⟨o, cells, rfl, ho, hcell⟩ := h2.at0 h3
 exact ⟨o, rfl, hcell 0 _ rfl⟩
theorem KJ.elem (h : KJ S w l A c i x A' c' W) {k : Nat} {y : S123} (hy : x.f0[k]? = some y) : ∃ b A1 c1 A3 c3 A4 c4 A5 c5, A' = some ⟨b, 0, none⟩ ∧ (∃ cells, W.heap[b]? = some (.cells cells 123 (0, 0))) ∧ W.cell? ⟨b, k * 6 + 1, none⟩ = some (.slice A1 y.f1.length c1) ∧ W.cell? ⟨b, k * 6 + 3, none⟩ = some (.slice A3 y.f2.f1.length c3) ∧ W.cell? ⟨b, k * 6 + 4, none⟩ = some (.slice A4 y.f2.f2.length c4) ∧ W.cell? ⟨b, k * 6 + 5, none⟩ = some (.slice A5 y.f2.f3.length c5) ∧
  LK (Kd.int .i64) (fun y => S y ∨ Ob A y ∨ Ob A' y) W (.slice A1 y.f1.length c1) y.f1 ∧ LK k39 (fun y => S y ∨ Ob A y ∨ Ob A' y) W (.slice A3 y.f2.f1.length c3) y.f2.f1 ∧ LK k39 (fun y => S y ∨ Ob A y ∨ Ob A' y) W (.slice A4 y.f2.f2.length c4) y.f2.f2 ∧ LK k172 (fun y => S y ∨ Ob A y ∨ Ob A' y) W (.slice A5 y.f2.f3.length c5) y.f2.f3 := by
 obtain ⟨rs, g1, g2, g3⟩ := h.inn
 have hil := (List.getElem?_eq_some_iff.1 hy).1
 have hi : rs[k]? = some rs[k] := List.getElem?_eq_getElem (by omega)
 obtain ⟨b, cells, rfl, ho, hcell⟩ := g2.at0 hi
 obtain ⟨A1, c1, A3, c3, A4, c4, A5, c5, e1, l1, f1, l3, f3, l4, f4, l5, f5⟩ := Ao3 (g3 k y _ hy hi)
 rw [e1] at hcell
 exact ⟨b, A1, c1, A3, c3, A4, c4, A5, c5, rfl, ⟨cells, ho⟩, hcell 1 _ rfl, hcell 3 _ rfl, hcell 4 _ rfl, hcell 5 _ rfl, LK.mk l1 f1, LK.mk l3 f3, LK.mk l4 f4, LK.mk l5 f5⟩
theorem KJ.put {b k j : Nat} {y : S123} {u : Value} (h : KJ S w l A c i x (some ⟨b, 0, none⟩) c' W) (hy : x.f0[k]? = some y) (hj : j < 6) (hu : u.oneCell' = true) (hnew : ∀ cs, Kd.FK k123 W (fun y => ¬ (S y ∨ Ob A y ∨ Ob (some ⟨b, 0, none⟩) y)) y cs → Kd.FK k123 W (fun y => ¬ (S y ∨ Ob A y ∨ Ob (some ⟨b, 0, none⟩) y)) y (cs.set j u)) :
  KJ S w l A c i x (some ⟨b, 0, none⟩) c' (W.setCell ⟨b, k * 6 + j, none⟩ u) := by
 have hne := h.ne
 obtain ⟨rows, h1, h2, h3, h4⟩ := h.row
 obtain ⟨rs, g1, g2, g3⟩ := h.inn
 have hil := (List.getElem?_eq_some_iff.1 hy).1
 have hi : rs[k]? = some rs[k] := List.getElem?_eq_getElem (by omega)
 have far : ∀ z : Nat, z ≠ b → (W.setCell ⟨b, k * 6 + j, none⟩ u).heap[z]? = W.heap[z]? := fun z hz => Below.heap_setCell W ⟨b, k * 6 + j, none⟩ u z hz
 have nb : ∀ z, ¬ (S z ∨ Ob A z ∨ Ob (some ⟨b, 0, none⟩) z) → z ≠ b := fun z hz e => hz (.inr (.inr (by rw [e]; rfl)))
 refine ⟨h.bel.setCell (p := ⟨b, k * 6 + j, none⟩) (h.new' b rfl) _, ⟨rows, h1, h2.step (fun z hz _ => far z (fun e => hne z hz (by rw [e]; rfl))), h3, fun j y cs a b d => Kd.Al0 (h4 j y cs a b d) (fun z hz _ => far z (nb z hz))⟩, h.new, h.new', ⟨rs.set k (rs[k].set j u), by rw [List.length_set, g1], g2.put hi hj u hu, fun q z cs hz hcs => ?_⟩⟩
 by_cases hq : k = q
 ·subst hq
  rw [List.getElem?_set_self (by omega)] at hcs
  injection hcs with hcs
  rw [hy] at hz
  injection hz with hz
  subst hz hcs
  exact Kd.Al0 (hnew _ (g3 k y _ hy hi)) (fun z hz _ => far z (nb z hz))
 ·rw [List.getElem?_set_ne hq] at hcs
  exact Kd.Al0 (g3 q z cs hz hcs) (fun z hz _ => far z (nb z hz))
theorem KJ.done (h : KJ S w l A c i x A' c' W) (hx : l[i]? = some x) (hS : ∀ y, S y → y < w.heap.size) : KO S w l A c W := by
 have hne := h.ne
 obtain ⟨rows, h1, h2, h3, h4⟩ := h.row
 obtain ⟨rs, g1, g2, g3⟩ := h.inn
 refine ⟨h.bel, ⟨rows, h1, h2, fun j y cs hy hcs => ?_⟩, h.new⟩
 by_cases hj : j = i
 ·subst hj
  rw [hx] at hy
  injection hy with hy
  rw [h3] at hcs
  injection hcs with hcs
  subst hy hcs
  have hl := g2.reads.1
  refine k132_mkF W _ x (by omega) (fun W' hW => ?_)
  have c1 := (g2.step (W' := W') (fun z hz hl => hW z (fun e => e.elim (fun e => by have := hS z e; have := h.new' z hz; omega) (fun e => hne z e hz)) hl)).reads.2
  obtain ⟨a1, a2, a3⟩ := c1
  refine ⟨rfl, by omega, fun hp => ?_⟩
  obtain ⟨ad, e1, hc⟩ := a3 (by omega)
  refine ⟨ad, e1, fun q z hz => ?_⟩
  have hql := (List.getElem?_eq_some_iff.1 hz).1
  obtain ⟨c9, d3, ⟨rfl, _⟩, d5⟩ := hc q _ (List.getElem?_eq_getElem (show q < rs.length by omega))
  exact ⟨_, d3, g3 q z _ hz (List.getElem?_eq_getElem (show q < rs.length by omega)) W' (fun y hy hl => hW y (fun e => hy (e.imp id .inl)) hl), d5⟩
 ·exact Kd.As1 (h4 j y cs hj hy hcs) (fun z hz e => hz (e.imp id .inl))
theorem KO.lk (h : KO S w l A c W) (hS : ∀ y, S y → y < w.heap.size) : LK k132 S W (.slice A l.length c) l := by
 obtain ⟨rows, h1, h2, h3⟩ := h.row
 have hl := h2.reads.1
 refine LK.mk (by omega) (fun W' hW => ?_)
 have c1 := (h2.step (W' := W') (fun z hz hl => hW z (fun e => by have := hS z e; have := h.new z hz; omega) hl)).reads.2
 obtain ⟨a1, a2, a3⟩ := c1
 refine ⟨rfl, by omega, fun hp => ?_⟩
 obtain ⟨ad, e1, hc⟩ := a3 (by omega)
 refine ⟨ad, e1, fun q z hz => ?_⟩
 have hql := (List.getElem?_eq_some_iff.1 hz).1
 obtain ⟨c9, d3, ⟨rfl, _⟩, d5⟩ := hc q _ (List.getElem?_eq_getElem (show q < rows.length by omega))
 exact ⟨_, d3, h3 q z _ hz (List.getElem?_eq_getElem (show q < rows.length by omega)) W' (fun y hy hl => hW y (fun e => hy (.inl e)) hl), d5⟩
theorem st_new1 {F : Nat → Prop} {y : S123} {A1 : Option Addr} {c1 : Nat} (h : y.f1.length ≤ c1 ∧ Kd.F (Kd.int .i64) W F A1 y.f1.length y.f1) (cs : List Value) (hk : Kd.FK k123 W F y cs) : Kd.FK k123 W F y (cs.set 1 (.slice A1 y.f1.length c1)) := by
 obtain ⟨B1, d1, B3, d3, B4, d4, B5, d5, rfl, l1, f1, l3, f3, l4, f4, l5, f5⟩ := Ao3 hk
 exact Ba9 W F y h.1 h.2 l3 f3 l4 f4 l5 f5
theorem st_new3 {F : Nat → Prop} {y : S123} {A1 : Option Addr} {c1 : Nat} (h : y.f2.f1.length ≤ c1 ∧ Kd.F k39 W F A1 y.f2.f1.length y.f2.f1) (cs : List Value) (hk : Kd.FK k123 W F y cs) : Kd.FK k123 W F y (cs.set 3 (.slice A1 y.f2.f1.length c1)) := by
 obtain ⟨B1, d1, B3, d3, B4, d4, B5, d5, rfl, l1, f1, l3, f3, l4, f4, l5, f5⟩ := Ao3 hk
 exact Ba9 W F y l1 f1 h.1 h.2 l4 f4 l5 f5
theorem st_new4 {F : Nat → Prop} {y : S123} {A1 : Option Addr} {c1 : Nat} (h : y.f2.f2.length ≤ c1 ∧ Kd.F k39 W F A1 y.f2.f2.length y.f2.f2) (cs : List Value) (hk : Kd.FK k123 W F y cs) : Kd.FK k123 W F y (cs.set 4 (.slice A1 y.f2.f2.length c1)) := by
 obtain ⟨B1, d1, B3, d3, B4, d4, B5, d5, rfl, l1, f1, l3, f3, l4, f4, l5, f5⟩ := Ao3 hk
 exact Ba9 W F y l1 f1 l3 f3 h.1 h.2 l5 f5
theorem st_new5 {F : Nat → Prop} {y : S123} {A1 : Option Addr} {c1 : Nat} (h : y.f2.f3.length ≤ c1 ∧ Kd.F k172 W F A1 y.f2.f3.length y.f2.f3) (cs : List Value) (hk : Kd.FK k123 W F y cs) : Kd.FK k123 W F y (cs.set 5 (.slice A1 y.f2.f3.length c1)) := by
 obtain ⟨B1, d1, B3, d3, B4, d4, B5, d5, rfl, l1, f1, l3, f3, l4, f4, l5, f5⟩ := Ao3 hk
 exact Ba9 W F y l1 f1 l3 f3 l4 f4 h.1 h.2
end
theorem Am7.ret {α : Type} {d : Kd α} {e : Nat} {S : Nat → Prop} {xs : List α} {w : World} {en : Ending} {w' : World} (h : Am7 d e S xs w en w') : ∃ v, en = .returned v := by
 obtain ⟨v, _, e1, _⟩ := h
 exact ⟨v, e1⟩
theorem Am7.bel {α : Type} {d : Kd α} {e : Nat} {S : Nat → Prop} {xs : List α} {w : World} {en : Ending} {w' : World} (h : Am7 d e S xs w en w') : Below w.heap.size w w' := by
 obtain ⟨_, _, _, _, _, _, hb⟩ := h
 exact hb
def STs (y : S123) : Prop := y.f1.length ≤ 1048576 ∧ y.f2.f1.length ≤ 1048576 ∧ y.f2.f2.length ≤ 1048576 ∧ y.f2.f3.length ≤ 1048576
def RTs (l : List S132) : Prop := l.length ≤ 1048576 ∧ ∀ x ∈ l, x.f0.length ≤ 1048576 ∧ ∀ y ∈ x.f0, STs y
theorem LK.setb {α : Type} {d : Kd α} {F : Nat → Prop} {w : World} {v : Value} {xs : List α} (h : LK d F w v xs) {b : Nat} (hb : F b) (j : Nat) (u : Value) : LK d F (w.setCell ⟨b, j, none⟩ u) v xs :=
 h.to (Ae0 w b j u) (fun x e => .inl (by rw [e]; exact hb)) (fun x e => .inl e)
set_option maxHeartbeats 16000000 in
theorem Cc4 (S : Nat → Prop) (A : Option Addr) (c : Nat) (l : List S132) (w : World) (h : LK k132 S w (.slice A l.length c) l) (hS : ∀ y, S y → y < w.heap.size) (hq : RTs l) :
  Calls Tryz.prog 63 #[.slice A l.length c] w (LOut k132 S l w) := by
 obtain ⟨n, hn⟩ : ∃ n, n = l.length := ⟨_, rfl⟩
 have K0 := Bq7 S A c l w h (by have := hq.1; omega)
 rw [← hn] at K0 ⊢
 have HN := zA hn
 have HS := zA hS
 have HQ := zA hq
 have hn1 : n ≤ 1048576 := by have := hq.1; omega
 clear h hS hq hn
 go_enter Tryz.func63, Tryz.ntmps63
 go_wp2_with fail
 refine K0.mono ?_
 rintro e w1 hc
 obtain ⟨v, rfl⟩ := hc.ret
 obtain ⟨A1, c1, rfl, hko⟩ := KO.start hc HS.out
 rw [← HN.out]
 have KO1 := zA hko
 clear hc hko K0
 go_wp2_with fail
 go_loopw [11] (fun i W => ∃ j : Nat, i = .int .i64 j ∧ j ≤ n ∧ KO S w l A1 c1 W) (fun i _ => n - (intOf i).toNat)
 case atStart => exact ⟨0, rfl, Nat.zero_le _, KO1.out⟩
 case round =>
  clear KO1
  obtain ⟨j, rfl, hj, hko⟩ := hrel
  have KO2 := zA hko
  clear hko
  obtain ⟨wo, hwo⟩ : ∃ wo : World, wo = wr := ⟨_, rfl⟩
  rw [← hwo] at KO2 ⊢
  clear hwo
  by_cases hlt : j < n
  ·obtain ⟨x, hx⟩ : ∃ x, l[j]? = some x := ⟨_, List.getElem?_eq_getElem (by rw [← HN.out]; exact hlt)⟩
   obtain ⟨o, Ai, ci, eA, hcell, hfr, hlk⟩ := KO2.out.elem hx
   subst eA
   have hxm := HQ.out.2 x (List.mem_of_getElem? hx)
   have K1 := Bq6 (fun y => S y ∨ Ob (some ⟨o, 0, none⟩) y) Ai ci x.f0 wo hlk (by omega)
   have HX := zA hx
   have HXM := zA hxm
   have HLT := zA hlt
   have HCF := zA (And.intro hcell hfr)
   obtain ⟨m, hm⟩ : ∃ m, m = x.f0.length := ⟨_, rfl⟩
   rw [← hm] at K1 hcell
   have HM := zA hm
   have hm1 : m ≤ 1048576 := by omega
   have hlt2 : (j : Int) < (n : Int) := by omega
   clear hx hfr hlk hxm hm
   go_wp2_with fail
   refine K1.mono ?_
   rintro e w2 hc
   obtain ⟨v, rfl⟩ := hc.ret
   obtain ⟨A2, c2, rfl, hkj⟩ := KJ.start KO2.out HX.out hc HS.out
   rw [← HM.out] at hkj ⊢
   have KJ1 := zA hkj
   have hbb := hc.bel
   have ol : o < wo.heap.size := World.block_lt_of_cell? _ _ HCF.out.1
   have s1 : w2.cell? ⟨o, j * 2, none⟩ = some (.slice Ai x.f0.length ci) := (hbb.cell ol).trans HCF.out.1
   have s2 : w2.frozen? ⟨o, j * 2, none⟩ = false := (hbb.frozen (p := ⟨o, j * 2, none⟩) ol).trans HCF.out.2
   clear hc hkj hcell K1 hbb ol
   go_wp2_with fail
   obtain ⟨W0, hW0⟩ : ∃ W0, W0 = w2.setCell ⟨o, j * 2, none⟩ (.slice A2 m c2) := ⟨_, rfl⟩
   rw [← hW0] at KJ1 ⊢
   clear s1 s2 hW0
   go_loopw [30] (fun i W => ∃ k : Nat, i = .int .i64 k ∧ k ≤ m ∧ KJ S w l (some ⟨o, 0, none⟩) c1 j x A2 c2 W) (fun i _ => m - (intOf i).toNat)
   case atStart => exact ⟨0, rfl, Nat.zero_le _, KJ1.out⟩
   case round =>
    clear KJ1
    obtain ⟨k, rfl, hk, hkj⟩ := hrel
    have KJ2 := zA hkj
    clear hkj
    by_cases hlk : k < m
    ·obtain ⟨y, hy⟩ : ∃ y, x.f0[k]? = some y := ⟨_, List.getElem?_eq_getElem (by rw [← HM.out]; exact hlk)⟩
     obtain ⟨b, B1, d1, B3, d3, B4, d4, B5, d5, eA, ⟨bcells, hbc⟩, g1, g3, g4, g5, k1, k3, k4, k5⟩ := KJ2.out.elem hy
     subst eA
     have h0 := KJ2.out.cell
     obtain ⟨o', eo, hoc⟩ := h0
     injection eo with eo
     injection eo with eo
     subst eo
     rw [← HM.out] at hoc
     have hys := HXM.out.2 y (List.mem_of_getElem? hy)
     have ol2 : o < wr.heap.size := World.block_lt_of_cell? wr ⟨o, j * 2, none⟩ hoc
     have bl2 : b < wr.heap.size := World.block_lt_of_cell? wr ⟨b, k * 6 + 1, none⟩ g1
     have SB : Aa2 (∀ z, (S z ∨ Ob (some ⟨o, 0, none⟩) z ∨ Ob (some ⟨b, 0, none⟩) z) → z < wr.heap.size) := ⟨fun z e => e.elim (fun e => Nat.lt_of_lt_of_le (HS.out z e) KJ2.out.bel.size) (fun e => e.elim (fun e => by injection e with e; rw [e]; exact ol2) (fun e => by injection e with e; rw [e]; exact bl2))⟩
     have K2 := Bl7 (fun z => S z ∨ Ob (some ⟨o, 0, none⟩) z ∨ Ob (some ⟨b, 0, none⟩) z) B1 d1 y.f1 wr k1 (by have := hys.1; omega)
     have HY := zA hy
     have HYS := zA (show y.f1.length ≤ 1048576 ∧ y.f2.f1.length ≤ 1048576 ∧ y.f2.f2.length ≤ 1048576 ∧ y.f2.f3.length ≤ 1048576 from hys)
     have HBC := zA hbc
     have HLK := zA hlk
     have hk2 : (k : Int) < (m : Int) := by omega
     have GG := zA (And.intro g3 (And.intro g4 g5))
     have KK := zA (And.intro k3 (And.intro k4 k5))
     clear hy hys hbc k1 k3 k4 k5 g3 g4 g5
     go_wp2_with fail
     refine K2.mono ?_
     rintro e w4 hc
     obtain ⟨v, rfl, hl4, hb4⟩ := hc.lk SB.out
     obtain ⟨C1, e1, rfl⟩ := hl4.slice
     have J4 := KJ2.out.below hb4
     have B45 : Aa2 (wr.heap.size ≤ (w4.setCell ⟨b, k * 6 + 1, none⟩ (.slice C1 y.f1.length e1)).heap.size) := ⟨by rw [World.size_setCell]; exact hb4.size⟩
     have J5 := zA (J4.put HY.out (j := 1) (by decide) (u := .slice C1 y.f1.length e1) rfl (fun cs hk => st_new1 ⟨hl4.reads.2.1, hl4.F⟩ cs hk))
     have bl : b < wr.heap.size := bl2
     have s1 : w4.cell? ⟨b, k * 6 + 1, none⟩ = some (.slice B1 y.f1.length d1) := (hb4.cell bl).trans g1
     have hbc4 := Aa3 HBC.out hb4
     have s2 : w4.frozen? ⟨b, k * 6 + 1, none⟩ = false := Aa1 hbc4 _
     clear hc hl4 hb4 J4 g1 K2 hoc bl bl2 ol2 hbc4
     go_wp2_with fail
     generalize hW5 : w4.setCell ⟨b, k * 6 + 1, none⟩ (.slice C1 y.f1.length e1) = w5 at J5 B45
     clear s1 s2
     obtain ⟨b', B1', d1', B3', d3', B4', d4', B5', d5', eA', ⟨bcells', hbc'⟩, _, g3, g4, g5, _, k3, k4, k5⟩ := J5.out.elem HY.out
     injection eA' with eA'
     injection eA' with eA'
     subst eA'
     have SB5 : Aa2 (∀ z, (S z ∨ Ob (some ⟨o, 0, none⟩) z ∨ Ob (some ⟨b, 0, none⟩) z) → z < w5.heap.size) := ⟨fun z e => Nat.lt_of_lt_of_le (SB.out z e) B45.out⟩
     have W6b : Below w5.heap.size w5 w5.drew := (Below.refl _ _).drew
     have J6 := zA (J5.out.below W6b)
     have HBC6 : Aa2 (w5.drew.heap[b]? = some (.cells bcells' 123 (0, 0))) := ⟨hbc'⟩
     have KK6 := zA (And.intro (k3.below W6b) (And.intro (k4.below W6b) (k5.below W6b)))
     have SB6 : Aa2 (∀ z, (S z ∨ Ob (some ⟨o, 0, none⟩) z ∨ Ob (some ⟨b, 0, none⟩) z) → z < w5.drew.heap.size) := ⟨SB5.out⟩
     have gg : w5.drew.cell? ⟨b, k * 6 + 3, none⟩ = some (.slice B3' y.f2.f1.length d3') ∧ w5.drew.cell? ⟨b, k * 6 + 4, none⟩ = some (.slice B4' y.f2.f2.length d4') ∧ w5.drew.cell? ⟨b, k * 6 + 5, none⟩ = some (.slice B5' y.f2.f3.length d5') := ⟨g3, g4, g5⟩
     clear g3 g4 g5 k3 k4 k5 hbc' W6b
     generalize hW6 : World.drew w5 = w6 at J6 HBC6 KK6 SB6 gg
     refine Ab3 (n := 33) (S := fun w' => w'.cell? ⟨b, k * 6 + 3, none⟩ = some (.slice B3' y.f2.f1.length d3') ∧ w'.cell? ⟨b, k * 6 + 4, none⟩ = some (.slice B4' y.f2.f2.length d4') ∧ w'.cell? ⟨b, k * 6 + 5, none⟩ = some (.slice B5' y.f2.f3.length d5')) (ds := [24, 28, 32]) (bm_ 33 0) (by kernel_rfl) rfl rfl ⟨(by rw [hW6]; exact gg.1), (by rw [hW6]; exact gg.2.1), (by rw [hW6]; exact gg.2.2)⟩ (fun hHeld => ?_)
     rw [hW6] at hHeld ⊢
     clear hW6 gg
     refine pz_ 0 48 33 1 ?_
     refine pz_ 1 49 33 3 ?_
     refine pz_ 2 50 33 7 ?_
     refine pz_ 3 51 33 15 ?_
     refine pz_ 4 52 33 31 ?_
     refine pz_ 5 53 33 63 ?_
     refine pz_ 6 54 33 127 ?_
     refine pz_ 9 57 33 639 ?_
     refine pz_ 10 58 33 1663 ?_
     refine pz_ 11 59 33 3711 ?_
     refine pz_ 12 60 33 7807 ?_
     refine pz_ 15 63 33 40575 ?_
     refine pz_ 16 64 33 106111 ?_
     refine pz_ 17 65 33 237183 ?_
     refine pz_ 18 66 33 499327 ?_
     refine tz_ 7 55 33 499455 hHeld ?_
     refine tz_ 13 61 33 507647 hHeld ?_
     refine tz_ 19 67 33 1031935 hHeld ?_
     refine oz_ 8 56 33 1032191 fun K hK => ?_
     refine gz_ Tryz.func50 #[.slice B3' y.f2.f1.length d3'] ?_
     with_reducible refine (Ag1 (S' := (fun z => S z ∨ Ob (some ⟨o, 0, none⟩) z ∨ Ob (some ⟨b, 0, none⟩) z)) KK6.out.1 (by have := HYS.out.2.1; omega) SB6.out).mono ?_
     rintro e w7 ⟨va, rfl, hla, hb⟩
     obtain ⟨Aa, ca, rfl⟩ := hla.slice
     have LA7 := zA hla
     have J7 := zA (J6.out.below hb)
     have HBC7 := zA (Aa3 HBC6.out hb)
     have KK7 := zA (And.intro (KK6.out.2.1.below hb) (KK6.out.2.2.below hb))
     have SZ7 := zA hb.size
     have f7 := And.intro (hb.kp hHeld.1) (And.intro (hb.kp hHeld.2.1) (hb.kp hHeld.2.2))
     clear hla hb
     refine ⟨_, rfl, ?_⟩
     refine hK.out _ _ ⟨f7.1, f7.2.1, f7.2.2⟩ (fun hHeld => ?_)
     clear hK K
     refine nz_ ?_
     refine oz_ 14 62 33 1048575 fun K hK => ?_
     refine gz_ Tryz.func50 #[.slice B4' y.f2.f2.length d4'] ?_
     with_reducible refine (Ag1 (S' := (fun z => S z ∨ Ob (some ⟨o, 0, none⟩) z ∨ Ob (some ⟨b, 0, none⟩) z)) KK7.out.1 (by have := HYS.out.2.2.1; omega) (fun z e => Nat.lt_of_lt_of_le (SB6.out z e) SZ7.out)).mono ?_
     rintro e w8 ⟨vb, rfl, hlb, hb⟩
     obtain ⟨Ab, cb, rfl⟩ := hlb.slice
     have LB8 := zA hlb
     have LA8 := zA (LA7.out.below hb)
     have J8 := zA (J7.out.below hb)
     have HBC8 := zA (Aa3 HBC7.out hb)
     have KK8 := zA (KK7.out.2.below hb)
     have SZ8 := zA (Nat.le_trans SZ7.out hb.size)
     have f8 := And.intro (hb.kp hHeld.1) (And.intro (hb.kp hHeld.2.1) (hb.kp hHeld.2.2))
     clear hlb hb
     refine ⟨_, rfl, ?_⟩
     refine hK.out _ _ ⟨f8.1, f8.2.1, f8.2.2⟩ (fun hHeld => ?_)
     clear hK K
     refine nz_ ?_
     refine oz_ 20 68 33 2097151 fun K hK => ?_
     refine gz_ Tryz.func116 #[.slice B5' y.f2.f3.length d5'] ?_
     with_reducible refine (Bq8 (fun z => S z ∨ Ob (some ⟨o, 0, none⟩) z ∨ Ob (some ⟨b, 0, none⟩) z) B5' d5' y.f2.f3 w8 KK8.out (by have := HYS.out.2.2.2; omega)).mono ?_
     rintro e w9 hc
     obtain ⟨vc, rfl, hlc, hb⟩ := hc.lk (fun z e => Nat.lt_of_lt_of_le (SB6.out z e) SZ8.out)
     obtain ⟨Ac, cc, rfl⟩ := hlc.slice
     have LC9 := zA hlc
     have LA9 := zA (LA8.out.below hb)
     have LB9 := zA (LB8.out.below hb)
     have J9 := zA (J8.out.below hb)
     have HBC9 := zA (Aa3 HBC8.out hb)
     have f9 := And.intro (hb.kp hHeld.1) (And.intro (hb.kp hHeld.2.1) (hb.kp hHeld.2.2))
     have F9 := zA f9
     clear hlc hb hc
     refine ⟨_, rfl, ?_⟩
     refine hK.out _ _ ⟨f9.1, f9.2.1, f9.2.2⟩ (fun hHeld => ?_)
     clear hK K
     refine nz_ ?_
     refine pz_ 21 69 33 4194303 ?_
     refine pz_ 22 70 33 8388607 ?_
     refine pz_ 23 71 33 16777215 ?_
     refine Ag8 (i := 24) (N := none) (bm_ 33 33554431) rfl rfl (by kernel_rfl) (by decide) (fun K hK => ?_)
     have hs3_ := F9.out.1
     have hs4_ := F9.out.2.1
     have hs5_ := F9.out.2.2
     have hf3_ : w9.frozen? ⟨b, k * 6 + 3, none⟩ = false := Aa1 HBC9.out _
     have hf4_ : w9.frozen? ⟨b, k * 6 + 4, none⟩ = false := Aa1 HBC9.out _
     have hf5_ : w9.frozen? ⟨b, k * 6 + 5, none⟩ = false := Aa1 HBC9.out _
     refine sz_ ?_
     refine hK.out _ _ ?_
     clear hK K
     refine pz_ 25 72 33 67108863 ?_
     refine pz_ 26 73 33 134217727 ?_
     refine pz_ 27 74 33 268435455 ?_
     refine Ag8 (i := 28) (N := none) (bm_ 33 536870911) rfl rfl (by kernel_rfl) (by decide) (fun K hK => ?_)
     refine sz_ ?_
     refine hK.out _ _ ?_
     clear hK K
     refine pz_ 29 75 33 1073741823 ?_
     refine pz_ 30 76 33 2147483647 ?_
     refine pz_ 31 77 33 4294967295 ?_
     refine Ag8 (i := 32) (N := none) (bm_ 33 8589934591) rfl rfl (by kernel_rfl) (by decide) (fun K hK => ?_)
     refine sz_ ?_
     refine hK.out _ _ ?_
     clear hK K
     refine dz_ ?_

     have bSJ : (fun z => S z ∨ Ob (some ⟨o, 0, none⟩) z ∨ Ob (some ⟨b, 0, none⟩) z) b := .inr (.inr rfl)
     have J10 := J9.out.put HY.out (j := 3) (by decide) (u := .slice Aa y.f2.f1.length ca) rfl (fun cs hk => st_new3 ⟨LA9.out.reads.2.1, LA9.out.F⟩ cs hk)
     have LB10 := LB9.out.setb bSJ (k * 6 + 3) (.slice Aa y.f2.f1.length ca)
     have LC10 := LC9.out.setb bSJ (k * 6 + 3) (.slice Aa y.f2.f1.length ca)
     have J11 := J10.put HY.out (j := 4) (by decide) (u := .slice Ab y.f2.f2.length cb) rfl (fun cs hk => st_new4 ⟨LB10.reads.2.1, LB10.F⟩ cs hk)
     have LC11 := LC10.setb bSJ (k * 6 + 4) (.slice Ab y.f2.f2.length cb)
     have J12 := zA (J11.put HY.out (j := 5) (by decide) (u := .slice Ac y.f2.f3.length cc) rfl (fun cs hk => st_new5 ⟨LC11.reads.2.1, LC11.F⟩ cs hk))
     clear bSJ J10 LB10 LC10 J11 LC11
     go_wp2_with fail
     go_roundw
     case rel => exact ⟨k + 1, by go_num, HLK.out, J12.out⟩
     case measure => have := HLK.out; simp [intOf]; omega
    ·obtain rfl : k = m := by omega
     clear hlk
     have K9 := zA (KJ2.out.done HX.out HS.out)
     go_wp2_with fail
     go_roundw
     case rel => exact ⟨j + 1, by go_num, HLT.out, K9.out⟩
     case measure => have := HLT.out; simp [intOf]; omega
  ·obtain rfl : j = n := by omega
   clear hlt
   go_wp2_with fail
   go_ret
   exact ⟨_, rfl, by have h_ := KO2.out.lk HS.out; rw [← HN.out] at h_; exact h_, KO2.out.bel⟩
def defM (x : S39) : Bool := if x.f0 = 5 then x.f1 else decide (1 ≤ x.f0) && decide (x.f0 ≤ 7)
theorem def_of {f : Nat} (h : ∀ (n : Int) (b : Bool) (m : Int) (w : World), n = 1 ∨ n = 2 ∨ n = 3 ∨ n = 4 ∨ n = 5 ∨ n = 6 ∨ n = 7 ∨ n < 1 ∨ 7 < n → ∃ r, (r = if n = 5 then b else decide (1 ≤ n) && decide (n ≤ 7)) ∧ Calls Tryz.prog f #[.agg #[.int .i64 n, .bool b, .int .i64 m]] w fun e w' => e = .returned (.bool r) ∧ Below w.heap.size w w') (x : S39) (w : World) : Calls Tryz.prog f #[.agg #[.int .i64 x.f0, .bool x.f1, .int .i64 x.f2]] w fun e w' => e = .returned (.bool (defM x)) ∧ Below w.heap.size w w' := by
 obtain ⟨r, hr, hc⟩ := h x.f0 x.f1 x.f2 w (by omega)
 rw [hr] at hc
 exact hc
theorem Ck3 (x : S39) (w : World) : Calls Tryz.prog 64 #[.agg #[.int .i64 x.f0, .bool x.f1, .int .i64 x.f2]] w fun e w' => e = .returned (.bool (defM x)) ∧ Below w.heap.size w w' := by
 refine def_of (fun n b m w hn => ⟨_, rfl, ?_⟩) x w
 rcases hn with rfl | rfl | rfl | rfl | rfl | rfl | rfl | h | h
 rotate_left 7
 ·have g0 : (n == 5) = false := beq_eq_false_iff_ne.mpr (by omega)
  have g1 : decide (1 ≤ n) = false := decide_eq_false (by omega)
  rw [if_neg (by omega), g1]
  clear h
  go_enter Tryz.func64, Tryz.ntmps64
  go_wp2_with fail
  go_ret
  exact ⟨rfl, bz_⟩
 ·have g0 : (n == 5) = false := beq_eq_false_iff_ne.mpr (by omega)
  have g1 : decide (1 ≤ n) = true := decide_eq_true (by omega)
  have g2 : decide (n ≤ 7) = false := decide_eq_false (by omega)
  rw [if_neg (by omega), g1, g2]
  clear h
  go_enter Tryz.func64, Tryz.ntmps64
  go_wp2_with fail
  go_ret
  exact ⟨rfl, bz_⟩
 all_goals
  go_enter Tryz.func64, Tryz.ntmps64
  go_wp2_with fail
  go_ret
  exact ⟨rfl, bz_⟩
theorem Cb0 (x : S39) (w : World) : Calls Tryz.prog 68 #[.agg #[.int .i64 x.f0, .bool x.f1, .int .i64 x.f2]] w fun e w' => e = .returned (.bool (defM x)) ∧ Below w.heap.size w w' := by
 refine def_of (fun n b m w hn => ⟨_, rfl, ?_⟩) x w
 rcases hn with rfl | rfl | rfl | rfl | rfl | rfl | rfl | h | h
 rotate_left 7
 ·have g0 : (n == 5) = false := beq_eq_false_iff_ne.mpr (by omega)
  have g1 : decide (1 ≤ n) = false := decide_eq_false (by omega)
  have g2 : (n == 6) = false := beq_eq_false_iff_ne.mpr (by omega)
  have g3 : (n == 7) = false := beq_eq_false_iff_ne.mpr (by omega)
  rw [if_neg (by omega), g1]
  clear h
  go_enter Tryz.func68, Tryz.ntmps68
  go_wp2_with fail
  go_ret
  exact ⟨rfl, bz_⟩
 ·have g0 : (n == 5) = false := beq_eq_false_iff_ne.mpr (by omega)
  have g1 : decide (1 ≤ n) = true := decide_eq_true (by omega)
  have g2 : decide (n ≤ 7) = false := decide_eq_false (by omega)
  have g3 : (n == 6) = false := beq_eq_false_iff_ne.mpr (by omega)
  have g4 : (n == 7) = false := beq_eq_false_iff_ne.mpr (by omega)
  have g5 : decide (n ≤ 4) = false := decide_eq_false (by omega)
  rw [if_neg (by omega), g1, g2]
  clear h
  go_enter Tryz.func68, Tryz.ntmps68
  go_wp2_with fail
  go_ret
  exact ⟨rfl, bz_⟩
 all_goals
  go_enter Tryz.func68, Tryz.ntmps68
  go_wp2_with fail
  go_ret
  exact ⟨rfl, bz_⟩
theorem R_of_cop {S : Nat → Prop} {xs : List S39} {w w' : World} {en : Ending} (h : Am7 k39 39 S xs w en w') : ∃ v, en = .returned v ∧ Kd.R k39 39 w' w.heap.size (fun _ => True) v xs ∧ Below w.heap.size w w' := by
 obtain ⟨v, rows, e1, hl, ⟨hok, inner, ho, hr⟩, hf, hb⟩ := h
 refine ⟨v, e1, ⟨hok, inner, by rw [← hl]; exact ho, ?_⟩, hb⟩
 refine ⟨by rw [hr.1, hl]; rfl, fun j x hx => ?_⟩
 have hjl := (List.getElem?_eq_some_iff.1 hx).1
 have h1 := hr.2 j _ (List.getElem?_eq_getElem (show j < rows.length by omega))
 have h2 := An3 (Kd.Ah4 (hf j x _ hx (List.getElem?_eq_getElem (show j < rows.length by omega))))
 have h3 := h1.1
 rw [h2] at h3
 show k39.M w' _ _ x ((inner.drop (j * 3)).take 3)
 have h4 : (inner.drop (j * 3)).take 3 = [.int .i64 x.f0, .bool x.f1, .int .i64 x.f2] := h3
 rw [h4]
 exact Ai2 _ _ _ x
structure NW (D : Nat → Prop) (w : World) (g : Nat) (l : List S132) (loc res : List S39) (vl vlo vr vs : Value) (sets : List Bool) (W : World) : Prop where
 bel : Below w.heap.size w W
 box : W.heap[g]? = some (.cells #[.bool true, vl, vlo, vs, vr, .slice none 0 0, .slice none 0 0] 102 (0, 0))
 new : w.heap.size ≤ g
 set : Kd.R Kd.bool 4 W w.heap.size (fun _ => True) vs sets
 lst : LK k132 (fun y => D y ∨ y = g ∨ vs.ownBlock = some y) W vl l
 loc : LK k39 (fun y => D y ∨ y = g ∨ vs.ownBlock = some y) W vlo loc
 res : LK k39 (fun y => D y ∨ y = g ∨ vs.ownBlock = some y) W vr res
theorem NW.below {D : Nat → Prop} {w : World} {g : Nat} {l : List S132} {loc res : List S39} {vl vlo vr vs : Value} {sets : List Bool} {W W' : World} (h : NW D w g l loc res vl vlo vr vs sets W) (hb : Below W.heap.size W W') : NW D w g l loc res vl vlo vr vs sets W' :=
 ⟨h.bel.trans (hb.mono h.bel.size), Aa3 h.box hb, h.new, Kd.Ac5 h.set hb, h.lst.below hb, h.loc.below hb, h.res.below hb⟩
theorem NW.put {D : Nat → Prop} {w : World} {g : Nat} {l : List S132} {loc res : List S39} {vl vlo vr vs v1 : Value} {sets : List Bool} {b : Bool} {W W1 : World} (h : NW D w g l loc res vl vlo vr vs sets W) (hD : ∀ y, D y → y < w.heap.size) (hr : Kd.R Kd.bool 4 W1 w.heap.size (fun _ => True) v1 (sets ++ [b])) (hg : W.grownBy W1 vs.ownBlock) (hat : v1.ownBlock = vs.ownBlock ∨ ∃ b, v1.ownBlock = some b ∧ W.heap.size ≤ b) :
  NW D w g l loc res vl vlo vr v1 (sets ++ [b]) (W1.setCell ⟨g, 3, none⟩ v1) := by
 have hgl := Ac0 h.box
 have hgv := Kd.R_ne h.set h.box (by decide)
 have c1 : Chg (fun y => vs.ownBlock = some y) W W1 := ⟨hg.os, hg.tape, hg.output, hg.size, fun k hk hn => hg.block k hk (fun e => hn e.symm)⟩
 have b1 := c1.blk h.box (fun e => hgv e.symm)
 have c2 := c1.trans (K := fun y => y = g ∨ vs.ownBlock = some y) (Ae0 W1 g 3 v1) (fun _ e => .inl (.inr e)) (fun _ e => .inl (.inl e))
 have mv : ∀ x, (D x ∨ x = g ∨ v1.ownBlock = some x) → (D x ∨ x = g ∨ vs.ownBlock = some x) ∨ W.heap.size ≤ x := fun x e => e.elim (fun e => .inl (.inl e)) (fun e => e.elim (fun e => .inl (.inr (.inl e))) (fun e => hat.elim (fun h => .inl (.inr (.inr (by rw [← h]; exact e)))) (fun ⟨b, hb, hl⟩ => .inr (by rw [hb] at e; injection e with e; omega))))
 have hN : ∀ x, (x = g ∨ vs.ownBlock = some x) → (D x ∨ x = g ∨ vs.ownBlock = some x) ∨ W.heap.size ≤ x := fun x e => .inl (.inr e)
 refine ⟨Af5 ((Chg.of_below h.bel (fun _ => False)).trans (K := fun y => w.heap.size ≤ y) c2 (fun _ e => e.elim) (fun x e => e.elim (fun e => .inr (by rw [e]; exact h.new)) (fun e => .inr (Kd.Ar9 h.set x e)))) (Nat.le_refl _) (fun _ e => e), ?_, h.new, Kd.Ac3 hr b1 (by decide) 3 v1, h.lst.to c2 hN mv, h.loc.to c2 hN mv, h.res.to c2 hN mv⟩
 rw [Aa7 b1]
 simp
theorem NW.done {D : Nat → Prop} {w : World} {g : Nat} {l : List S132} {loc res : List S39} {vl vlo vr vs : Value} {sets : List Bool} {W : World} (h : NW D w g l loc res vl vlo vr vs sets W) (hD : ∀ y, D y → y < w.heap.size) (B : Nat) (hB : ∀ y, D y → B ≤ y) (hB2 : B ≤ w.heap.size) (htb : Lib.TabBelow Tryz.prog B w "internal/strconv.uint64pow10" .u64 Lib.pow10Tab) :
  StV D (fun y => y = g) g ⟨l, loc, sets, res, [], []⟩ W vl vlo vs vr none 0 none 0 := by
 have hgv := Kd.R_ne h.set h.box (by decide)
 have hS : ∀ y, (y = g ∨ D y) → (D y ∨ y = g ∨ vs.ownBlock = some y) := fun y e => e.elim (fun e => .inr (.inl e)) .inl
 have hset : LK Kd.bool (fun x => x = g ∨ D x) W vs sets := by
  have h1 := Kd.R_V (base' := 0) (Kd.Bx3 rfl h.set)
  have h2 := h1
  exact Kd.Az3 h2 (fun k hk e => e.elim (fun e => hgv (by rw [← e]; exact hk)) (fun e => by have := hD k e; have := Kd.Ar9 h.set k hk.symm; omega))
 exact ⟨h.box, h.lst.mono hS, h.loc.mono hS, hset, h.res.mono hS, CR.nil _ _ _ _, ⟨[], rfl, CR.nil _ _ _ _, fun j x cs hx => by simp at hx⟩, rfl, fun x e => e.elim (fun e => by rw [e]; exact Ac0 h.box) (fun e => Nat.lt_of_lt_of_le (hD x e) h.bel.size), fun x e d => by have := hD x d; have := h.new; omega, ⟨B, fun x e => e.elim (fun e => by have := h.new; omega) (hB x), Nat.le_trans hB2 h.bel.size, htb.on ⟨h.bel.os, h.bel.tape, h.bel.output, h.bel.size, fun k hk => h.bel.block k (by omega)⟩⟩⟩
def NewOut (D : Nat → Prop) (k : Chk) (w : World) (e : Ending) (w' : World) : Prop := ∃ g S', e = .returned (.pointer (some ⟨g, 0, none⟩)) ∧ St D S' g k w' ∧ (∀ x, S' x → w.heap.size ≤ x) ∧ Below w.heap.size w w'
def Ae2 (np : Nat) (l : List S39) : List Bool := l.zipIdx.map fun p => decide (p.2 < np) || defM p.1
theorem Bc2 (np : Nat) {l : List S39} {j : Nat} {x : S39} (h : l[j]? = some x) : (Ae2 np l)[j]? = some (decide (j < np) || defM x) := by
 unfold Ae2
 rw [List.getElem?_map, List.getElem?_zipIdx, h]
 simp
theorem Ad7 (np : Nat) (l : List S39) : (Ae2 np l).length = l.length := by simp [Ae2]
set_option maxHeartbeats 16000000 in
theorem Cc5 (D : Nat → Prop) (A : Option Addr) (c : Nat) (l : List S132) (A1 : Option Addr) (c1 : Nat) (ps : List S39) (A2 : Option Addr) (c2 : Nat) (ls : List S39) (A3 : Option Addr) (c3 : Nat) (rs : List S39) (w : World) (h : LK k132 D w (.slice A l.length c) l) (h1 : LK k39 D w (.slice A1 ps.length c1) ps) (h2 : LK k39 D w (.slice A2 ls.length c2) ls) (h3 : LK k39 D w (.slice A3 rs.length c3) rs) (hD : ∀ y, D y → y < w.heap.size) (hq : RTs l) (hp : ps.length ≤ 1048576) (hll : ls.length ≤ 1048576) (hrl : rs.length ≤ 1048576)
  (B : Nat) (hB : ∀ y, D y → B ≤ y) (hB2 : B ≤ w.heap.size) (htb : Lib.TabBelow Tryz.prog B w "internal/strconv.uint64pow10" .u64 Lib.pow10Tab) :
  Calls Tryz.prog 29 #[.slice A l.length c, .slice A1 ps.length c1, .slice A2 ls.length c2, .slice A3 rs.length c3] w (NewOut D ⟨l, ps ++ ls, Ae2 ps.length (ps ++ ls), rs, [], [⟨2, [], rs, 0, Ae2 ps.length (ps ++ ls), false⟩]⟩ w) := by
 obtain ⟨n0, hn0⟩ : ∃ n0, n0 = l.length := ⟨_, rfl⟩
 obtain ⟨n1, hn1⟩ : ∃ n1, n1 = ps.length := ⟨_, rfl⟩
 obtain ⟨n2, hn2⟩ : ∃ n2, n2 = ls.length := ⟨_, rfl⟩
 obtain ⟨n3, hn3⟩ : ∃ n3, n3 = rs.length := ⟨_, rfl⟩
 have K0 := Cc4 D A c l w h hD hq
 rw [← hn0] at K0 ⊢
 rw [← hn1, ← hn2, ← hn3]
 have HH := zA (And.intro h1 (And.intro h2 h3))
 have HD := zA hD
 have HL := zA (And.intro hp (And.intro hll hrl))
 have HN := zA (And.intro hn1 (And.intro hn2 hn3))
 have HB := zA (And.intro hB (And.intro hB2 htb))
 clear h h1 h2 h3 hD hq hp hll hrl hn0 hn1 hn2 hn3 hB hB2 htb
 go_enter Tryz.func29, Tryz.ntmps29
 go_wp2_with fail
 refine K0.mono ?_
 rintro e w2 ⟨vl, rfl, hkl, hb2⟩
 obtain ⟨Ak, ck, rfl⟩ := hkl.slice
 obtain ⟨nk, hnk⟩ : ∃ nk, nk = l.length := ⟨_, rfl⟩
 rw [← hnk] at hkl ⊢
 clear hnk
 have HKL := zA hkl
 have B2 := zA hb2
 have K1 := Bq5 D A1 c1 ps w2 (HH.out.1.below hb2) (by have := HL.out.1; omega)
 rw [← HN.out.1] at K1
 clear hkl hb2 K0
 go_wp2_with fail
 refine K1.mono ?_
 rintro e w3 hc
 obtain ⟨v, rfl, hr, hb3⟩ := R_of_cop hc
 obtain ⟨Ap, cp, rfl⟩ := Kd.Aa9 hr
 rw [← HN.out.1]
 have R3 := zA hr
 have B3 := zA hb3
 have LS3 := zA ((HH.out.2.1.below B2.out).below hb3)
 clear hc hr hb3 K1
 go_wp2_with (at_builtin; refine Kd.Ah2 k39 (Rr := k39.K w3) (w0 := w2) w2.heap.size rfl (.tmp 15) (.tmp 16) 27 39 (.agg #[.int .i64 0, .bool false, .int .i64 0]) 24 rfl Tryz.underlying27 Am5 rfl (by decide) (by decide) (.slice Ap n1 cp) ps ls A2 n2 c2 (fun _ => True) (fun _ => False) rfl rfl (by have h_ := R3.out; rw [← HN.out.1] at h_; exact h_) (by have h_ := LS3.out.reads.2.2; rw [← HN.out.2.1] at h_; exact h_) (fun x cs hk => by rw [An3 hk]; exact Ai2 _ _ _ x) (fun _ hk => hk.elim) (fun _ _ => trivial) B3.out B3.out.size (by have := HN.out; have := HL.out; omega) ?_; intro v4 w4 hr4 hb4 hg4 hat4; have R4 := zA hr4; have B4 := zA hb4; clear hr4 hb4 hg4 hat4)
 obtain ⟨Al, cl, e4⟩ := Kd.Aa9 R4.out
 subst e4
 have L4 : Aa2 (LK k39 D w4 (.slice Al (ps ++ ls).length cl) (ps ++ ls)) := ⟨LK.fresh R4.out (fun x e => Nat.lt_of_lt_of_le (HD.out x e) B2.out.size)⟩
 have KL4 := zA (HKL.out.below B4.out)
 have K2 := Ag1 (S' := D) ((HH.out.2.2.below B2.out).below B4.out) (by have := HL.out.2.2; omega) (fun x e => Nat.lt_of_lt_of_le (HD.out x e) (Nat.le_trans B2.out.size B4.out.size))
 rw [← HN.out.2.2] at K2
 refine K2.mono ?_
 rintro e w5 ⟨vr, rfl, hkr, hb5⟩
 obtain ⟨Ar, cr, rfl⟩ := hkr.slice
 rw [← HN.out.2.2] at hkr ⊢
 obtain ⟨loc, hloc⟩ : ∃ loc, loc = ps ++ ls := ⟨_, rfl⟩
 rw [← hloc] at L4
 rw [← hloc]
 have HLOC := zA hloc
 obtain ⟨nn, hnn⟩ : ∃ nn, nn = loc.length := ⟨_, rfl⟩
 have HNN := zA hnn
 have hnn1 : nn ≤ 2097152 := by rw [hnn, hloc, List.length_append]; have := HL.out; omega
 rw [← hnn] at L4 ⊢
 obtain ⟨G, hG⟩ : ∃ G, G = w5.heap.size := ⟨_, rfl⟩
 obtain ⟨w6, hw6⟩ : ∃ w6, w6 = w5.alloc (.cells #[.bool true, .slice Ak nk ck, .slice Al nn cl, .slice none 0 0, .slice Ar n3 cr, .slice none 0 0, .slice none 0 0] 102) := ⟨_, rfl⟩
 have b6 : Below w5.heap.size w5 w6 := by rw [hw6]; exact bz_
 have B5 : Below w.heap.size w w5 := (B2.out.trans (B4.out.mono B2.out.size)).trans (hb5.mono (Nat.le_trans B2.out.size B4.out.size))
 have ext : ∀ {α : Type} {d : Kd α} {v : Value} {xs : List α}, LK d D w5 v xs → LK d (fun y => D y ∨ y = G ∨ (Value.slice none 0 0).ownBlock = some y) w6 v xs := fun h => h.to (Chg.of_below b6 (fun _ => False)) (fun _ e => e.elim) (fun x e => e.elim .inl (fun e => e.elim (fun e => .inr (by rw [e, hG]; exact Nat.le_refl _)) (fun e => by simp [Value.ownBlock] at e)))
 have NW6 : Aa2 (NW D w G l loc rs (.slice Ak nk ck) (.slice Al nn cl) (.slice Ar n3 cr) (.slice none 0 0) [] w6) := ⟨B5.trans (b6.mono B5.size), by rw [hw6, hG]; exact Aa6 w5 _, by rw [hG]; exact B5.size, Kd.Aj9 _ _ _ _ _, ext (KL4.out.below hb5), ext (L4.out.below hb5), ext hkr⟩
 clear hkr hb5 K2 ext b6 B5 R4 R3 B3 LS3 hloc hnn
 go_wp2_with fail
 rw [← hG]
 rw [← hw6]
 clear hG hw6
 go_loopw [27] (fun i W => ∃ (j : Nat) (vs : Value), i = .int .i64 j ∧ j ≤ nn ∧ NW D w G l loc rs (.slice Ak nk ck) (.slice Al nn cl) (.slice Ar n3 cr) vs ((Ae2 ps.length loc).take j) W) (fun i _ => nn - (intOf i).toNat)
 case atStart => exact ⟨0, _, rfl, Nat.zero_le _, NW6.out⟩
 case round =>
  clear NW6
  obtain ⟨j, vs, rfl, hj, hnw⟩ := hrel
  have N1 := zA hnw
  clear hnw
  by_cases hlt : j < nn
  ·obtain ⟨x, hx⟩ : ∃ x, loc[j]? = some x := ⟨_, List.getElem?_eq_getElem (by rw [← HNN.out]; exact hlt)⟩
   have hsx := Bc2 ps.length hx
   have h9 := N1.out.loc.reads.2.2
   obtain ⟨ad, eA, x0, x1, x2⟩ := Bg7 h9 hx
   subst eA
   have HSX := zA hsx
   have HLT := zA hlt
   have hjn : j ≤ 2097152 := by omega
   have hlt2 : (j : Int) < (nn : Int) := by omega
   clear hx hsx h9
   obtain ⟨As, cs, evs⟩ := Kd.Aa9 N1.out.set
   have hlen : ((Ae2 ps.length loc).take j).length = j := by rw [List.length_take, Ad7]; have := HNN.out; omega
   rw [hlen] at evs
   subst evs
   have BX := zA N1.out.box
   clear hlen
   go_wp2_with fail
   obtain ⟨w7, hw7⟩ : ∃ w7, World.drew (wr.alloc (.cells #[.int .i64 x.f0, .bool x.f1, .int .i64 x.f2] 39)) = w7 := ⟨_, rfl⟩
   have b7 : Below wr.heap.size wr w7 := by rw [← hw7]; exact (bz_).drew
   have q7 : w7.heap[wr.heap.size]? = some (.cells #[.int .i64 x.f0, .bool x.f1, .int .i64 x.f2] 39 (0, 0)) := by rw [← hw7]; exact Aa6 wr _
   have N7 := zA (N1.out.below b7)
   have z3 := bc_ N7.out.box 3
   have z0 := bc_ q7 0
   have z1 := bc_ q7 1
   have z2 := bc_ q7 2
   have Q7 := zA q7
   clear b7 q7 x0 x1 x2
   by_cases hnp : j < n1
   ·have g0 : decide ((j : Int) < (n1 : Int)) = true := by simp; omega
    have g1 : decide (j < n1) = true := by simp; omega
    have HSY : Aa2 ((Ae2 ps.length loc)[j]? = some true) := ⟨by rw [HSX.out, ← HN.out.1, g1]; rfl⟩
    clear hnp
    refine Ab3 (n := 18) (S := fun w' => w'.cell? ⟨G, 3, none⟩ = some (.slice As j cs) ∧ w'.cell? ⟨wr.heap.size, 0, none⟩ = some (.int .i64 x.f0) ∧ w'.cell? ⟨wr.heap.size, 1, none⟩ = some (.bool x.f1) ∧ w'.cell? ⟨wr.heap.size, 2, none⟩ = some (.int .i64 x.f2)) (ds := [17]) (bm_ 18 0) (by kernel_rfl) rfl rfl ⟨(by rw [hw7]; exact z3), (by rw [hw7]; exact z0), (by rw [hw7]; exact z1), (by rw [hw7]; exact z2)⟩ (fun hHeld => ?_)
    rw [hw7] at hHeld ⊢
    clear hw7 z0 z1 z2 z3
    refine pz_ 0 32 18 1 ?_
    refine pz_ 1 33 18 3 ?_
    refine pz_ 2 34 18 7 ?_
    refine pz_ 3 35 18 15 ?_
    refine pz_ 5 37 18 47 ?_
    refine pz_ 6 38 18 111 ?_
    refine pz_ 7 39 18 239 ?_
    refine pz_ 8 40 18 495 ?_
    refine pz_ 9 41 18 1007 ?_
    refine uz_ 10 42 18 2031 ?_
    refine uz_ 11 43 18 4079 ?_
    refine pz_ 12 44 18 8175 ?_
    refine tz_ 4 36 18 8191 hHeld ?_
    refine oz_ 13 45 18 16383 fun K hK => ?_
    refine vz_ ?_
    refine hK.out _ _ ⟨(Aa0 (Aa5 N7.out.box (.cells #[.bool (true)] 4)) 3).trans rfl, (Aa0 (Aa5 Q7.out (.cells #[.bool (true)] 4)) 0).trans rfl, (Aa0 (Aa5 Q7.out (.cells #[.bool (true)] 4)) 1).trans rfl, (Aa0 (Aa5 Q7.out (.cells #[.bool (true)] 4)) 2).trans rfl⟩ (fun hHeld => ?_)
    clear hK K
    refine nz_ ?_
    refine oz_ 14 46 18 32767 fun K hK => ?_
    refine Kd.Ab9 Kd.bool (w0 := w) w.heap.size (by rfl) (.tmp 36) (.tmp 45) 28 4 (.bool false) 1 rfl Tryz.underlying28 Cd0 rfl (by decide) (by decide) (.slice As j cs) ((Ae2 ps.length loc).take j) (true) [.bool (true)] (fun _ => True) (fun _ => False) rfl rfl rfl (fun _ hk => hk.elim) (fun _ _ => trivial) N7.out.set N7.out.bel N7.out.bel.size (by rw [List.length_take]; omega) ?_
    intro v1 w9 hr hb hg hat
    have NP := zA (N7.out.put HD.out hr hg hat)
    have hgv : some G ≠ (Value.slice As j cs).ownBlock := Kd.R_ne N7.out.set N7.out.box (by decide)
    have BX9 := zA ((hg.block G (Ac0 N7.out.box) hgv).trans N7.out.box)
    have QX9 := zA ((hg.block wr.heap.size (Ac0 Q7.out) (fun e => by have h1 := Kd.Bm9 N7.out.set _ e.symm; obtain ⟨_, h1⟩ := h1; rw [Q7.out] at h1; injection h1 with h1; injection h1 with _ h1; exact absurd h1 (by decide))).trans Q7.out)
    obtain ⟨A1_, c1_, ev1⟩ := Kd.Aa9 hr
    rw [List.length_append, List.length_singleton] at ev1
    have hlen : ((Ae2 ps.length loc).take j).length = j := by rw [List.length_take, Ad7]; have := HNN.out; omega
    rw [hlen] at ev1
    subst ev1
    clear hr hb hg hat hgv hlen
    refine hK.out _ _ ⟨(Aa0 BX9.out 3).trans rfl, (Aa0 QX9.out 0).trans rfl, (Aa0 QX9.out 1).trans rfl, (Aa0 QX9.out 2).trans rfl⟩ (fun hHeld => ?_)
    clear hK K
    refine nz_ ?_
    refine pz_ 15 47 18 65535 ?_
    refine pz_ 16 48 18 131071 ?_
    refine Ag8 (i := 17) (N := none) (bm_ 18 262143) rfl rfl (by kernel_rfl) (by decide) (fun K hK => ?_)
    have hs_ := bc_ BX9.out 3
    have hfs_ := Aa1 BX9.out 3
    refine sz_ ?_
    refine hK.out _ _ ?_
    clear hK K
    refine dz_ ?_

    go_wp2_with fail
    go_roundw
    case rel => exact ⟨j + 1, .slice A1_ (j + 1) c1_, by go_num, HLT.out, by have h_ := NP.out; rw [List.take_add_one, HSY.out]; exact h_⟩
    case measure => have := HLT.out; simp [intOf]; omega
   ·have g0 : decide ((j : Int) < (n1 : Int)) = false := by simp; omega
    have g1 : decide (j < n1) = false := by simp; omega
    have HSY : Aa2 ((Ae2 ps.length loc)[j]? = some (defM x)) := ⟨by rw [HSX.out, ← HN.out.1, g1]; rfl⟩
    clear hnp
    refine Ab3 (n := 18) (S := fun w' => w'.cell? ⟨G, 3, none⟩ = some (.slice As j cs) ∧ w'.cell? ⟨wr.heap.size, 0, none⟩ = some (.int .i64 x.f0) ∧ w'.cell? ⟨wr.heap.size, 1, none⟩ = some (.bool x.f1) ∧ w'.cell? ⟨wr.heap.size, 2, none⟩ = some (.int .i64 x.f2)) (ds := [17]) (bm_ 18 0) (by kernel_rfl) rfl rfl ⟨(by rw [hw7]; exact z3), (by rw [hw7]; exact z0), (by rw [hw7]; exact z1), (by rw [hw7]; exact z2)⟩ (fun hHeld => ?_)
    rw [hw7] at hHeld ⊢
    clear hw7 z0 z1 z2 z3
    refine pz_ 0 32 18 1 ?_
    refine pz_ 1 33 18 3 ?_
    refine pz_ 2 34 18 7 ?_
    refine pz_ 3 35 18 15 ?_
    refine pz_ 5 37 18 47 ?_
    refine pz_ 6 38 18 111 ?_
    refine pz_ 7 39 18 239 ?_
    refine pz_ 8 40 18 495 ?_
    refine pz_ 9 41 18 1007 ?_
    refine tz_ 4 36 18 1023 hHeld ?_
    refine tz_ 10 42 18 2047 hHeld ?_
    refine oz_ 11 43 18 4095 fun K hK => ?_
    refine gz_ Tryz.func64 #[.agg #[.int .i64 x.f0, .bool x.f1, .int .i64 x.f2]] ?_
    with_reducible refine (Ck3 x w7).mono ?_
    rintro e w8 ⟨rfl, hb⟩
    have N8 := zA (N7.out.below hb)
    have Q8 := zA (Aa3 Q7.out hb)
    clear hb
    refine ⟨_, rfl, ?_⟩
    refine hK.out _ _ ⟨(Aa0 N8.out.box 3).trans rfl, (Aa0 Q8.out 0).trans rfl, (Aa0 Q8.out 1).trans rfl, (Aa0 Q8.out 2).trans rfl⟩ (fun hHeld => ?_)
    clear hK K
    refine nz_ ?_
    refine pz_ 12 44 18 8191 ?_
    refine oz_ 13 45 18 16383 fun K hK => ?_
    refine vz_ ?_
    refine hK.out _ _ ⟨(Aa0 (Aa5 N8.out.box (.cells #[.bool (defM x)] 4)) 3).trans rfl, (Aa0 (Aa5 Q8.out (.cells #[.bool (defM x)] 4)) 0).trans rfl, (Aa0 (Aa5 Q8.out (.cells #[.bool (defM x)] 4)) 1).trans rfl, (Aa0 (Aa5 Q8.out (.cells #[.bool (defM x)] 4)) 2).trans rfl⟩ (fun hHeld => ?_)
    clear hK K
    refine nz_ ?_
    refine oz_ 14 46 18 32767 fun K hK => ?_
    refine Kd.Ab9 Kd.bool (w0 := w) w.heap.size (by rfl) (.tmp 36) (.tmp 45) 28 4 (.bool false) 1 rfl Tryz.underlying28 Cd0 rfl (by decide) (by decide) (.slice As j cs) ((Ae2 ps.length loc).take j) (defM x) [.bool (defM x)] (fun _ => True) (fun _ => False) rfl rfl rfl (fun _ hk => hk.elim) (fun _ _ => trivial) N8.out.set N8.out.bel N8.out.bel.size (by rw [List.length_take]; omega) ?_
    intro v1 w9 hr hb hg hat
    have NP := zA (N8.out.put HD.out hr hg hat)
    have hgv : some G ≠ (Value.slice As j cs).ownBlock := Kd.R_ne N8.out.set N8.out.box (by decide)
    have BX9 := zA ((hg.block G (Ac0 N8.out.box) hgv).trans N8.out.box)
    have QX9 := zA ((hg.block wr.heap.size (Ac0 Q8.out) (fun e => by have h1 := Kd.Bm9 N8.out.set _ e.symm; obtain ⟨_, h1⟩ := h1; rw [Q8.out] at h1; injection h1 with h1; injection h1 with _ h1; exact absurd h1 (by decide))).trans Q8.out)
    obtain ⟨A1_, c1_, ev1⟩ := Kd.Aa9 hr
    rw [List.length_append, List.length_singleton] at ev1
    have hlen : ((Ae2 ps.length loc).take j).length = j := by rw [List.length_take, Ad7]; have := HNN.out; omega
    rw [hlen] at ev1
    subst ev1
    clear hr hb hg hat hgv hlen
    refine hK.out _ _ ⟨(Aa0 BX9.out 3).trans rfl, (Aa0 QX9.out 0).trans rfl, (Aa0 QX9.out 1).trans rfl, (Aa0 QX9.out 2).trans rfl⟩ (fun hHeld => ?_)
    clear hK K
    refine nz_ ?_
    refine pz_ 15 47 18 65535 ?_
    refine pz_ 16 48 18 131071 ?_
    refine Ag8 (i := 17) (N := none) (bm_ 18 262143) rfl rfl (by kernel_rfl) (by decide) (fun K hK => ?_)
    have hs_ := bc_ BX9.out 3
    have hfs_ := Aa1 BX9.out 3
    refine sz_ ?_
    refine hK.out _ _ ?_
    clear hK K
    refine dz_ ?_

    go_wp2_with fail
    go_roundw
    case rel => exact ⟨j + 1, .slice A1_ (j + 1) c1_, by go_num, HLT.out, by have h_ := NP.out; rw [List.take_add_one, HSY.out]; exact h_⟩
    case measure => have := HLT.out; simp [intOf]; omega
  ·obtain rfl : j = nn := by omega
   clear hlt
   have hfull : (Ae2 ps.length loc).take j = Ae2 ps.length loc := List.take_of_length_le (by rw [Ad7]; have := HNN.out; omega)
   have hst := N1.out.done HD.out B HB.out.1 HB.out.2.1 HB.out.2.2
   rw [hfull] at hst
   obtain ⟨sets, hsets⟩ : ∃ sets, sets = Ae2 ps.length loc := ⟨_, rfl⟩
   rw [← hsets] at hst
   have HSL : Aa2 (sets.length ≤ 2097152) := ⟨by rw [hsets, Ad7]; have := HNN.out; omega⟩
   have HSE := zA hsets
   have b7 : Below wr.heap.size wr wr.drew := (Below.refl _ _).drew
   have H7 := zA (hst.below b7)
   have BW := zA (N1.out.bel.trans (b7.mono N1.out.bel.size))
   have NG := zA N1.out.new
   have LR7 := zA ((HH.out.2.2.below N1.out.bel).below b7)
   clear hfull hst hsets b7
   go_wp2_with fail
   obtain ⟨w7, hw7⟩ : ∃ w7, World.drew wr = w7 := ⟨_, rfl⟩
   rw [hw7] at H7 BW LR7
   have z3 : w7.cell? ⟨G, 3, none⟩ = some vs := H7.out.c3
   refine Ab3 (n := 12) (S := fun w' => w'.cell? ⟨G, 3, none⟩ = some vs) (ds := [11]) (bm_ 12 0) (by kernel_rfl) rfl rfl ((by rw [hw7]; exact z3)) (fun hHeld => ?_)
   rw [hw7] at hHeld ⊢
   clear hw7 z3
   refine pz_ 0 50 12 1 ?_
   refine pz_ 1 51 12 3 ?_
   refine pz_ 2 52 12 7 ?_
   refine pz_ 3 53 12 15 ?_
   refine pz_ 5 55 12 47 ?_
   refine pz_ 6 56 12 111 ?_
   refine pz_ 7 57 12 239 ?_
   refine tz_ 8 58 12 495 hHeld ?_
   refine oz_ 4 54 12 511 fun K hK => ?_
   refine gz_ Tryz.func50 #[.slice A3 n3 c3] ?_
   with_reducible refine (Ag1 (S' := fun y => y = G ∨ D y) (by have h_ := LR7.out; rw [← HN.out.2.2] at h_; exact h_) (by have := HL.out.2.2; omega) H7.out.lt).mono ?_
   rintro e w8 ⟨va, rfl, hla, hb⟩
   obtain ⟨Aa, ca, rfl⟩ := hla.slice
   have LA8 := zA hla
   have H8 := zA (H7.out.below hb)
   have B8 := zA hb
   clear hla hb
   refine ⟨_, rfl, ?_⟩
   refine hK.out _ _ (H8.out.c3) (fun hHeld => ?_)
   clear hK K
   refine nz_ ?_
   refine oz_ 9 59 12 1023 fun K hK => ?_
   refine gz_ Tryz.func66 #[vs] ?_
   with_reducible refine (Ar4 (S' := fun y => y = G ∨ D y) H8.out.set (by have := HSL.out; dsimp only; omega) H8.out.lt).mono ?_
   rintro e w9 ⟨vc, rfl, hlc, hb⟩
   obtain ⟨Ac, cc, rfl⟩ := hlc.slice
   have LC9 := zA hlc
   have LA9 := zA (LA8.out.below hb)
   have H9 := zA (H8.out.below hb)
   have BB9 := zA (B8.out.trans (hb.mono B8.out.size))
   clear hlc hb
   refine ⟨_, rfl, ?_⟩
   refine hK.out _ _ (H9.out.c3) (fun hHeld => ?_)
   clear hK K
   refine nz_ ?_
   refine pz_ 10 60 12 2047 ?_
   refine lz_ 11 61 12 4095 fun K hK => ?_
   have K9 : Calls Tryz.prog 65 #[.pointer (some ⟨G, 6, none⟩), .agg #[.int .i64 2, .slice none 0 0, .slice Aa rs.length ca, .int .i64 0, .slice Ac sets.length cc, .bool false]] w9 _ := Bi9 H9.out ⟨2, [], rs, 0, sets, false⟩ (LK.nil k39 (fun y => y = G ∨ D y) w9) LA9.out LC9.out (by simp)
   refine gz_ Tryz.func65 #[.pointer (some ⟨G, 6, none⟩), .agg #[.int .i64 2, .slice none 0 0, .slice Aa rs.length ca, .int .i64 0, .slice Ac sets.length cc, .bool false]] ?_
   with_reducible refine (K9).mono ?_
   rintro e w10 ⟨rfl, S2, af2, cf2, hs2, hg2, hst2, hch2⟩
   have ST9 := zA hst2
   have G9 := zA hg2
   have C9 := zA hch2
   clear hs2 hg2 hst2 hch2
   refine ⟨_, rfl, ?_⟩
   refine hK.out _ _ ?_
   clear hK K
   refine nz_ ?_
   refine dz_ ?_

   go_wp2_with fail
   go_ret
   have h_ := ST9.out
   rw [HSE.out, HLOC.out, ← HN.out.1] at h_
   exact ⟨G, S2, rfl, ⟨_, _, _, _, _, _, _, _, h_⟩, fun x e => (G9.out x e).elim (fun e => by rw [e]; exact NG.out) (fun l => Nat.le_trans (Nat.le_trans BW.out.size BB9.out.size) l), (BW.out.trans (BB9.out.mono BW.out.size)).trans (Af5 C9.out (Nat.le_trans BW.out.size BB9.out.size) (fun x e => by rw [e]; exact NG.out))⟩
theorem bool_at {w : World} {A : Option Addr} {n : Nat} {l : List Bool} (h : Kd.C Kd.bool w A n l) {j : Nat} {x : Bool} (hj : l[j]? = some x) : ∃ ad, A = some ad ∧ w.cell? (ad.add j) = some (.bool x) := by
 have hl := (List.getElem?_eq_some_iff.1 hj).1
 have := h.1
 obtain ⟨ad, e, hc⟩ := Kd.at_bool h (j : Int) (by omega) (by omega)
 refine ⟨ad, e, ?_⟩
 rw [Int.toNat_natCast] at hc
 rw [hc]
 simp [rdOf, List.getD_eq_getElem?_getD, hj]
def ROut {α : Type} (d : Kd α) (t : Nat) (xs : List α) (w : World) (e : Ending) (w' : World) : Prop := ∃ v, e = .returned v ∧ Kd.R d t w' w.heap.size (fun _ => True) v xs ∧ Below w.heap.size w w'
set_option maxHeartbeats 4000000 in
theorem Ax2 (S : Nat → Prop) {v : Value} (l : List S39) (w : World) (h : LK k39 S w v l) (hl : l.length ≤ 1099511627776) : Calls Tryz.prog 67 #[v] w (ROut k39 39 l w) := by
 obtain ⟨A, c, rfl⟩ := h.slice
 obtain ⟨n, hn⟩ : ∃ n, n = l.length := ⟨_, rfl⟩
 rw [← hn] at h ⊢
 have H := zA h
 have HN := zA hn
 have hn1 : n ≤ 1099511627776 := by omega
 have HN1 := zA hn1
 clear h hl hn
 go_enter Tryz.func67, Tryz.ntmps67
 go_wp2_with fail
 go_loopw [3, 4] (fun v i W => ∃ j : Nat, i = .int .i64 j ∧ j ≤ n ∧ Kd.R k39 39 W w.heap.size (fun _ => True) v (l.take j) ∧ Below w.heap.size w W) (fun _ i _ => n - (intOf i).toNat)
 case atStart => exact ⟨0, rfl, Nat.zero_le _, Kd.Aj9 _ _ _ _ _, Below.refl _ _⟩
 case round =>
  obtain ⟨j, rfl, hj, hr, hb⟩ := hrel
  have R := zA hr
  have B := zA hb
  by_cases hlt : j < n
  ·obtain ⟨x, hx⟩ : ∃ x, l[j]? = some x := ⟨_, List.getElem?_eq_getElem (by rw [← HN.out]; exact hlt)⟩
   have L := H.out.below hb
   obtain ⟨ad, eA, x0, x1, x2⟩ := Bg7 L.reads.2.2 hx
   subst eA
   obtain ⟨Aj, cj, ev⟩ := Kd.Aa9 hr
   have hlen : (l.take j).length = j := by rw [List.length_take]; have := HN.out; omega
   rw [hlen] at ev
   subst ev
   have HX := zA hx
   have HLT := zA hlt
   have HLEN := zA hlen
   have hlt2 : (j : Int) < (n : Int) := by omega
   clear hx L hr hb hlen
   go_wp2_with (at_builtin; refine Kd.Af9 k39 (w0 := w) w.heap.size rfl (.tmp 11) (.tmp 16) 27 39 (.agg #[.int .i64 0, .bool false, .int .i64 0]) 24 rfl Tryz.underlying27 Am5 rfl (by decide) (by decide) (.slice Aj j cj) (l.take j) x [.int .i64 x.f0, .bool x.f1, .int .i64 x.f2] (fun _ => True) (fun _ => False) rfl rfl (Ai2 _ _ _ x) (fun _ hk_ => hk_.elim) (fun _ _ => trivial) R.out B.out B.out.size (by have := HLEN.out; have := HN1.out; omega) ?_; intro v1 w1 hr1 hb1 _ _; have R1 := zA hr1; have B1 := zA hb1; clear hr1 hb1)
   go_roundw
   case rel => exact ⟨j + 1, by go_num, HLT.out, by rw [List.take_add_one, HX.out]; exact R1.out, B1.out⟩
   case measure => have := HLT.out; simp [intOf]; omega
  ·obtain rfl : j = n := by omega
   clear hlt hr hb
   go_wp2_with fail
   go_ret
   exact ⟨_, rfl, by have h_ := R.out; rw [List.take_of_length_le (by have := HN.out; omega)] at h_; exact h_, B.out⟩
theorem Af2 (S S' : Nat → Prop) {v : Value} (l : List S39) (w : World) (h : LK k39 S w v l) (hl : l.length ≤ 1099511627776) (hS : ∀ x, S' x → x < w.heap.size) : Calls Tryz.prog 67 #[v] w (LOut k39 S' l w) :=
 (Ax2 S l w h hl).mono (fun e w' ⟨v, e1, h1, h2⟩ => ⟨v, e1, LK.fresh h1 hS, h2⟩)
set_option maxHeartbeats 4000000 in
theorem Bt8 (S : Nat → Prop) {v : Value} (l : List Bool) (w : World) (h : LK Kd.bool S w v l) (hl : l.length ≤ 1099511627776) : Calls Tryz.prog 69 #[v] w (ROut Kd.bool 4 l w) := by
 obtain ⟨A, c, rfl⟩ := h.slice
 obtain ⟨n, hn⟩ : ∃ n, n = l.length := ⟨_, rfl⟩
 rw [← hn] at h ⊢
 have H := zA h
 have HN := zA hn
 have hn1 : n ≤ 1099511627776 := by omega
 have HN1 := zA hn1
 clear h hl hn
 go_enter Tryz.func69, Tryz.ntmps69
 go_wp2_with fail
 go_loopw [3, 4] (fun v i W => ∃ j : Nat, i = .int .i64 j ∧ j ≤ n ∧ Kd.R Kd.bool 4 W w.heap.size (fun _ => True) v (l.take j) ∧ Below w.heap.size w W) (fun _ i _ => n - (intOf i).toNat)
 case atStart => exact ⟨0, rfl, Nat.zero_le _, Kd.Aj9 _ _ _ _ _, Below.refl _ _⟩
 case round =>
  obtain ⟨j, rfl, hj, hr, hb⟩ := hrel
  have R := zA hr
  have B := zA hb
  by_cases hlt : j < n
  ·obtain ⟨x, hx⟩ : ∃ x, l[j]? = some x := ⟨_, List.getElem?_eq_getElem (by rw [← HN.out]; exact hlt)⟩
   have L := H.out.below hb
   obtain ⟨ad, eA, x0⟩ := bool_at L.reads.2.2 hx
   subst eA
   obtain ⟨Aj, cj, ev⟩ := Kd.Aa9 hr
   have hlen : (l.take j).length = j := by rw [List.length_take]; have := HN.out; omega
   rw [hlen] at ev
   subst ev
   have HX := zA hx
   have HLT := zA hlt
   have HLEN := zA hlen
   have hlt2 : (j : Int) < (n : Int) := by omega
   clear hx L hr hb hlen
   go_wp2_with (at_builtin; refine Kd.Af9 Kd.bool (w0 := w) w.heap.size rfl (.tmp 11) (.tmp 16) 28 4 (.bool false) 1 rfl Tryz.underlying28 Cd0 rfl (by decide) (by decide) (.slice Aj j cj) (l.take j) x [.bool x] (fun _ => True) (fun _ => False) rfl rfl rfl (fun _ hk_ => hk_.elim) (fun _ _ => trivial) R.out B.out B.out.size (by have := HLEN.out; have := HN1.out; omega) ?_; intro v1 w1 hr1 hb1 _ _; have R1 := zA hr1; have B1 := zA hb1; clear hr1 hb1)
   go_roundw
   case rel => exact ⟨j + 1, by go_num, HLT.out, by rw [List.take_add_one, HX.out]; exact R1.out, B1.out⟩
   case measure => have := HLT.out; simp [intOf]; omega
  ·obtain rfl : j = n := by omega
   clear hlt hr hb
   go_wp2_with fail
   go_ret
   exact ⟨_, rfl, by have h_ := R.out; rw [List.take_of_length_le (by have := HN.out; omega)] at h_; exact h_, B.out⟩
theorem Ap4 (S S' : Nat → Prop) {v : Value} (l : List Bool) (w : World) (h : LK Kd.bool S w v l) (hl : l.length ≤ 1099511627776) (hS : ∀ x, S' x → x < w.heap.size) : Calls Tryz.prog 69 #[v] w (LOut Kd.bool S' l w) :=
 (Bt8 S l w h hl).mono (fun e w' ⟨v, e1, h1, h2⟩ => ⟨v, e1, LK.fresh h1 hS, h2⟩)
def Fr.q (x : Fr) : S139 := ⟨x.op, x.ins, x.outs, x.height, x.sets, x.dead⟩
structure RV (E : Nat → Prop) (d : Nat) (k : Chk) (W : World) (vl vlo vs vst vf vr : Value) : Prop where
 box : W.heap[d]? = some (.cells #[vl, vlo, vs, vst, vf, vr] 64 (0, 0))
 lst : LK k132 E W vl k.l
 loc : LK k39 E W vlo k.locals
 set : LK Kd.bool E W vs k.sets
 stk : LK k39 E W vst k.ops
 frs : LK k139 E W vf (k.frames.map Fr.q)
 res : LK k39 E W vr k.results
 own : E d
 lt : ∀ x, E x → x < W.heap.size
 tab : ∃ B, (∀ x, E x → B ≤ x) ∧ B ≤ W.heap.size ∧ Lib.TabBelow Tryz.prog B W "internal/strconv.uint64pow10" .u64 Lib.pow10Tab
def R13 (E : Nat → Prop) (d : Nat) (k : Chk) (W : World) : Prop := ∃ vl vlo vs vst vf vr, RV E d k W vl vlo vs vst vf vr
section
variable {E E' N : Nat → Prop} {d : Nat} {k : Chk} {W W' : World} {vl vlo vs vst vf vr : Value}
theorem RV.chg (h : RV E d k W vl vlo vs vst vf vr) (c : Chg N W W') (hN : ∀ x, N x → (E x ∧ x ≠ d) ∨ W.heap.size ≤ x) (hE : ∀ x, E' x → E x ∨ W.heap.size ≤ x) (hd : E' d) (hlt : ∀ x, E' x → x < W'.heap.size) : RV E' d k W' vl vlo vs vst vf vr := by
 have hN' : ∀ x, N x → E x ∨ W.heap.size ≤ x := fun x e => (hN x e).imp And.left id
 refine ⟨c.blk h.box (fun e => (hN d e).elim (fun e => e.2 rfl) (fun l => by have := h.lt d h.own; omega)), h.lst.to c hN' hE, h.loc.to c hN' hE, h.set.to c hN' hE, h.stk.to c hN' hE, h.frs.to c hN' hE, h.res.to c hN' hE, hd, hlt, ?_⟩
 obtain ⟨B, b1, b2, b3⟩ := h.tab
 exact ⟨B, fun x e => (hE x e).elim (b1 x) (fun l => by omega), Nat.le_trans b2 c.size, b3.on (Af5 c b2 (fun x e => (hN' x e).elim (b1 x) (fun l => by omega)))⟩
theorem RV.below (h : RV E d k W vl vlo vs vst vf vr) (hb : Below W.heap.size W W') : RV E d k W' vl vlo vs vst vf vr :=
 h.chg (Chg.of_below hb (fun _ => False)) (fun _ e => e.elim) (fun _ e => .inl e) h.own (fun x e => Nat.lt_of_lt_of_le (h.lt x e) hb.size)
theorem R13.below (h : R13 E d k W) (hb : Below W.heap.size W W') : R13 E d k W' := by
 obtain ⟨vl, vlo, vs, vst, vf, vr, h⟩ := h
 exact ⟨vl, vlo, vs, vst, vf, vr, h.below hb⟩
theorem R13.lt (h : R13 E d k W) : ∀ x, E x → x < W.heap.size := by
 obtain ⟨vl, vlo, vs, vst, vf, vr, h⟩ := h
 exact h.lt
theorem RV.c0 (h : RV E d k W vl vlo vs vst vf vr) : W.cell? ⟨d, 0, none⟩ = some vl := (Aa0 h.box 0).trans rfl
theorem RV.c1 (h : RV E d k W vl vlo vs vst vf vr) : W.cell? ⟨d, 1, none⟩ = some vlo := (Aa0 h.box 1).trans rfl
theorem RV.c2 (h : RV E d k W vl vlo vs vst vf vr) : W.cell? ⟨d, 2, none⟩ = some vs := (Aa0 h.box 2).trans rfl
theorem RV.c3 (h : RV E d k W vl vlo vs vst vf vr) : W.cell? ⟨d, 3, none⟩ = some vst := (Aa0 h.box 3).trans rfl
theorem RV.c4 (h : RV E d k W vl vlo vs vst vf vr) : W.cell? ⟨d, 4, none⟩ = some vf := (Aa0 h.box 4).trans rfl
theorem RV.c5 (h : RV E d k W vl vlo vs vst vf vr) : W.cell? ⟨d, 5, none⟩ = some vr := (Aa0 h.box 5).trans rfl
theorem setd {α : Type} {K : Kd α} {v u : Value} {xs : List α} (h : LK K E W v xs) (hd : E d) (j : Nat) : LK K E (W.setCell ⟨d, j, none⟩ u) v xs := h.setb hd j u
theorem RV.stack (h : RV E d k W vl vlo vs vst vf vr) {v : Value} {xs : List S39} (hv : LK k39 E W v xs) : RV E d { k with ops := xs } (W.setCell ⟨d, 3, none⟩ v) vl vlo vs v vf vr := by
 have c := Ae0 W d 3 v
 refine ⟨by rw [Aa7 h.box]; simp, setd h.lst h.own 3, setd h.loc h.own 3, setd h.set h.own 3, setd hv h.own 3, setd h.frs h.own 3, setd h.res h.own 3, h.own, fun x e => Nat.lt_of_lt_of_le (h.lt x e) c.size, ?_⟩
 obtain ⟨B, b1, b2, b3⟩ := h.tab
 exact ⟨B, b1, Nat.le_trans b2 c.size, b3.on (Af5 c b2 (fun x e => by rw [e]; exact b1 d h.own))⟩
theorem RV.frames (h : RV E d k W vl vlo vs vst vf vr) {v : Value} {xs : List Fr} (hv : LK k139 E W v (xs.map Fr.q)) : RV E d { k with frames := xs } (W.setCell ⟨d, 4, none⟩ v) vl vlo vs vst v vr := by
 have c := Ae0 W d 4 v
 refine ⟨by rw [Aa7 h.box]; simp, setd h.lst h.own 4, setd h.loc h.own 4, setd h.set h.own 4, setd h.stk h.own 4, setd hv h.own 4, setd h.res h.own 4, h.own, fun x e => Nat.lt_of_lt_of_le (h.lt x e) c.size, ?_⟩
 obtain ⟨B, b1, b2, b3⟩ := h.tab
 exact ⟨B, b1, Nat.le_trans b2 c.size, b3.on (Af5 c b2 (fun x e => by rw [e]; exact b1 d h.own))⟩
def RQ (E : Nat → Prop) (d : Nat) (k' : Chk) (val : Value) (w : World) (e : Ending) (w' : World) : Prop := e = .returned val ∧ R13 E d k' w' ∧ Chg (fun x => x = d) w w'
end
section
variable {E : Nat → Prop} {d : Nat} {k : Chk} {w : World}
def PF (w5 : World) (l : List S39) (cs : List Value) (s : Value × Nat) (w' : World) : Prop := Kd.R k39 39 w' w5.heap.size (fun _ => True) s.1 l ∧ w'.heap[s.2]? = some (.cells cs.toArray 39 (0, 0)) ∧ Below w5.heap.size w5 w'
theorem PF.a {w5 w6 : World} {l : List S39} {cs : List Value} {v : Value} (hr : Kd.R k39 39 w6 w5.heap.size (fun _ => True) v l) (hb : Below w5.heap.size w5 w6) : PF w5 l cs (v, w6.heap.size) (w6.alloc (.cells cs.toArray 39)) :=
 ⟨Kd.Ac5 hr (bz_), Aa6 w6 _, hb.alloc hb.size _⟩
theorem PF.b {w5 w7 : World} {l : List S39} {cs : List Value} {v : Value} (hr : Kd.R k39 39 w7 (w5.alloc (.cells cs.toArray 39)).heap.size (fun _ => True) v l) (hb : Below (w5.alloc (.cells cs.toArray 39)).heap.size (w5.alloc (.cells cs.toArray 39)) w7) : PF w5 l cs (v, w5.heap.size) w7 :=
 ⟨Kd.Ak4 hr (by rw [World.size_alloc]; omega), Aa3 (Aa6 w5 _) hb, (bz_).trans (hb.mono (by rw [World.size_alloc]; omega))⟩
theorem Cl2 {W : World} {b : Nat} (x : S39) (h : W.heap[b]? = some (.cells #[.int .i64 x.f0, .bool x.f1, .int .i64 x.f2] 39 (0, 0))) : Ac9 (k39.K W) 3 W (some ⟨b, 0, none⟩) 1 [x] := by
 refine ⟨rfl, by decide, fun _ => ⟨_, rfl, fun j p hj => ?_⟩⟩
 have hj0 : j = 0 := by have := (List.getElem?_eq_some_iff.1 hj).1; simp at this; omega
 subst hj0
 simp only [List.getElem?_cons_zero, Option.some.injEq] at hj
 subst hj
 refine ⟨[.int .i64 x.f0, .bool x.f1, .int .i64 x.f2], rfl, Bq9 W x, fun i u hu => ?_⟩
 rw [Addr.add_lit, Nat.zero_mul, Nat.zero_add, Nat.zero_add, Aa0 h i]
 simpa using hu
set_option maxHeartbeats 4000000 in
theorem Bu0 (h : R13 E d k w) (x : S39) (hn : 0 < k.frames.length) (hm : k.ops.length + 1 ≤ 4294967296) :
  Calls Tryz.prog 73 #[.pointer (some ⟨d, 0, none⟩), .agg #[.int .i64 x.f0, .bool x.f1, .int .i64 x.f2]] w (RQ E d { k with ops := k.ops ++ [x] } (.int .i64 0) w) := by
 obtain ⟨vl, vlo, vs, vst, vf, vr, h⟩ := h
 obtain ⟨Af, cf, rfl⟩ := h.frs.slice
 obtain ⟨m, hmm⟩ : ∃ m, m = (k.frames.map Fr.q).length := ⟨_, rfl⟩
 have c4 := (h.below (W' := w.alloc (.cells #[.int .i64 x.f0, .bool x.f1, .int .i64 x.f2] 39)) (bz_)).c4
 rw [← hmm] at c4
 have hmz : m ≠ 0 := by rw [hmm, List.length_map]; omega
 have hm0 : ((m : Int) == 0) = false := beq_eq_false_iff_ne.mpr (by omega)
 have hm1 : (m == 0) = false := beq_eq_false_iff_ne.mpr hmz
 have hm2 : decide (m = 0) = false := decide_eq_false hmz
 clear hmz
 have HH := zA h
 have HM := zA hm
 clear h hn hm hmm
 go_enter Tryz.func73, Tryz.ntmps73
 go_wp2_with fail
 obtain ⟨w5, hw5⟩ : ∃ w5, World.drew (w.alloc (.cells #[.int .i64 x.f0, .bool x.f1, .int .i64 x.f2] 39)) = w5 := ⟨_, rfl⟩
 have b5 : Below w.heap.size w w5 := by rw [← hw5]; exact (bz_).drew
 have q5 : w5.heap[w.heap.size]? = some (.cells #[.int .i64 x.f0, .bool x.f1, .int .i64 x.f2] 39 (0, 0)) := by rw [← hw5]; exact Aa6 w _
 have H5 := zA (HH.out.below b5)
 have B5 := zA b5
 have z3 : w5.cell? ⟨d, 3, none⟩ = some vst := H5.out.c3
 have z0 : w5.cell? ⟨w.heap.size, 0, none⟩ = some (.int .i64 x.f0) := (Aa0 q5 0).trans rfl
 have z1 : w5.cell? ⟨w.heap.size, 1, none⟩ = some (.bool x.f1) := (Aa0 q5 1).trans rfl
 have z2 : w5.cell? ⟨w.heap.size, 2, none⟩ = some (.int .i64 x.f2) := (Aa0 q5 2).trans rfl
 clear b5 q5 c4
 refine Ab3 (n := 12) (S := fun w' => w'.cell? ⟨d, 3, none⟩ = some vst ∧ w'.cell? ⟨w.heap.size, 0, none⟩ = some (.int .i64 x.f0) ∧ w'.cell? ⟨w.heap.size, 1, none⟩ = some (.bool x.f1) ∧ w'.cell? ⟨w.heap.size, 2, none⟩ = some (.int .i64 x.f2)) (ds := [11]) (bm_ 12 0) (by kernel_rfl) rfl rfl ⟨(by rw [hw5]; exact z3), (by rw [hw5]; exact z0), (by rw [hw5]; exact z1), (by rw [hw5]; exact z2)⟩ (fun hHeld => ?_)
 rw [hw5] at hHeld ⊢
 clear hw5
 refine pz_ 0 11 12 1 ?_
 refine pz_ 1 12 12 3 ?_
 refine pz_ 2 13 12 7 ?_
 refine pz_ 3 14 12 15 ?_
 refine tz_ 4 15 12 31 hHeld ?_
 refine tz_ 6 17 12 95 hHeld ?_
 refine join_ (σ := Value × Nat) 4 (bm_ 12 255) (fun s_ => [(16, s_.1), (18, .slice (some ⟨s_.2, 0, none⟩) 1 1)]) (fun s_ w' => PF w5 k.ops [.int .i64 x.f0, .bool x.f1, .int .i64 x.f2] s_ w') ?_ ?_
 rotate_left
 ·intro hCont
  refine two_ (i := 5) (j := 7) (Ni := some 16) (Nj := some 18) (bm_ 12 127) (bm_ 12 223) rfl rfl rfl rfl (by kernel_rfl) (by decide) (by decide) (fun K hK => ?_) (fun K hK => ?_)
  ·skip
   refine gz_ Tryz.func67 #[vst] ?_
   with_reducible refine (Ax2 E k.ops w5 H5.out.stk (by have := HM.out; omega)).mono ?_
   rintro e w6 ⟨v6, rfl, hr_, hb0_⟩
   have g_ : _ ∧ _ ∧ _ ∧ _ := ⟨hb0_.kp hHeld.1, hb0_.kp hHeld.2.1, hb0_.kp hHeld.2.2.1, hb0_.kp hHeld.2.2.2⟩
   refine ⟨_, rfl, ?_⟩
   refine hK.out _ _ ⟨g_.1, g_.2.1, g_.2.2.1, g_.2.2.2⟩ (fun hHeld => ?_)
   clear hK K
   refine nz_ ?_
   refine oz_ 7 18 12 255 fun K hK => ?_
   refine vz_ ?_
   have hb_ := (Below.refl _ _).alloc (w := w6) (Nat.le_refl _) (.cells #[.int .i64 x.f0, .bool x.f1, .int .i64 x.f2] 39)
   have g_ : _ ∧ _ ∧ _ ∧ _ := ⟨hb_.kp hHeld.1, hb_.kp hHeld.2.1, hb_.kp hHeld.2.2.1, hb_.kp hHeld.2.2.2⟩
   refine hK.out _ _ ⟨g_.1, g_.2.1, g_.2.2.1, g_.2.2.2⟩ (fun hHeld => ?_)
   clear hK K
   refine nz_ ?_
   exact Aq9 (by simp only [Aj0, Act.put, List.setIfInBounds_toArray, List.set_cons_zero, List.set_cons_succ]) (hCont (_, _) _ (PF.a hr_ hb0_))
  ·skip
   refine vz_ ?_
   have hb_ := (Below.refl _ _).alloc (w := w5) (Nat.le_refl _) (.cells #[.int .i64 x.f0, .bool x.f1, .int .i64 x.f2] 39)
   have g_ : _ ∧ _ ∧ _ ∧ _ := ⟨hb_.kp hHeld.1, hb_.kp hHeld.2.1, hb_.kp hHeld.2.2.1, hb_.kp hHeld.2.2.2⟩
   refine hK.out _ _ ⟨g_.1, g_.2.1, g_.2.2.1, g_.2.2.2⟩ (fun hHeld => ?_)
   clear hK K
   refine nz_ ?_
   refine oz_ 5 16 12 255 fun K hK => ?_
   refine gz_ Tryz.func67 #[vst] ?_
   with_reducible refine (Ax2 E k.ops (w5.alloc (.cells #[.int .i64 x.f0, .bool x.f1, .int .i64 x.f2] 39)) (H5.out.stk.below (bz_)) (by have := HM.out; omega)).mono ?_
   rintro e w6 ⟨v6, rfl, hr_, hb_⟩
   have g_ : _ ∧ _ ∧ _ ∧ _ := ⟨hb_.kp hHeld.1, hb_.kp hHeld.2.1, hb_.kp hHeld.2.2.1, hb_.kp hHeld.2.2.2⟩
   refine ⟨_, rfl, ?_⟩
   refine hK.out _ _ ⟨g_.1, g_.2.1, g_.2.2.1, g_.2.2.2⟩ (fun hHeld => ?_)
   clear hK K
   refine nz_ ?_
   exact Aq9 (by simp only [Aj0, Act.put, List.setIfInBounds_toArray, List.set_cons_zero, List.set_cons_succ]) (hCont (_, _) _ (PF.b hr_ hb_))
 rintro ⟨v6, bx⟩ w6 hpf
 have hb_ := hpf.2.2
 have hHeld : w6.cell? ⟨d, 3, none⟩ = some vst ∧ _ ∧ _ ∧ _ := ⟨hb_.kp z3, hb_.kp z0, hb_.kp z1, hb_.kp z2⟩
 have PFo := zA hpf
 obtain ⟨A6, c6, ev6⟩ := Kd.Aa9 hpf.1
 dsimp only at ev6
 subst ev6
 clear hpf hb_
 refine Aq9 (a' := ?_) ?_ ?_
 rotate_left
 ·simp only [Aj0, Act.put, List.setIfInBounds_toArray, List.set_cons_zero, List.set_cons_succ]
  rfl
 refine oz_ 8 19 12 511 fun K hK => ?_
 refine Kd.Aj7 k39 (Rr := k39.K w6) (w0 := w5) w5.heap.size (by rfl) (.tmp 16) (.tmp 18) 27 39 (.agg #[.int .i64 0, .bool false, .int .i64 0]) 24 rfl Tryz.underlying27 Am5 rfl (by decide) (by decide) (.slice A6 k.ops.length c6) k.ops [x] (some ⟨bx, 0, none⟩) 1 1 (fun _ => True) (fun _ => False) rfl rfl PFo.out.1 (Cl2 x PFo.out.2.1) (fun y cs hk => by rw [An3 hk]; exact Ai2 _ _ _ y) (fun _ hk => hk.elim) (fun _ _ => trivial) PFo.out.2.2 PFo.out.2.2.size (by have := HM.out; omega) ?_
 intro v7 w7 hr7 hb7 hg7 _
 have R7 := zA hr7
 have B7 := zA hb7
 have H7 := zA (H5.out.below hb7)
 have f7_ : ∀ {p : Addr} {u : Value}, w5.cell? p = some u → w7.cell? p = some u := fun h_ => hb7.kp h_
 have g_ : _ ∧ _ ∧ _ ∧ _ := ⟨f7_ z3, f7_ z0, f7_ z1, f7_ z2⟩
 obtain ⟨A7, c7, ev7⟩ := Kd.Aa9 hr7
 subst ev7
 clear hr7 hb7 hg7
 refine hK.out _ _ ⟨g_.1, g_.2.1, g_.2.2.1, g_.2.2.2⟩ (fun hHeld => ?_)
 clear hK K
 refine nz_ ?_
 refine pz_ 9 20 12 1023 ?_
 refine pz_ 10 21 12 2047 ?_
 refine Ag8 (i := 11) (N := none) (bm_ 12 4095) rfl rfl (by kernel_rfl) (by decide) (fun K hK => ?_)
 have hs_ : w7.cell? ⟨d, 3, none⟩ = some vst := H7.out.c3
 have hfs_ : w7.frozen? ⟨d, 3, none⟩ = false := Aa1 H7.out.box 3
 refine sz_ ?_
 refine hK.out _ _ ?_
 clear hK K
 refine dz_ ?_

 go_wp2_with fail
 go_ret
 have hl7 : LK k39 E w7 (.slice A7 (k.ops ++ [x]).length c7) (k.ops ++ [x]) := LK.fresh R7.out (fun y e => H5.out.lt y e)
 have e9 : (k.ops ++ [x]).length = k.ops.length + 1 := by simp
 rw [e9] at hl7
 exact ⟨rfl, ⟨_, _, _, _, _, _, H7.out.stack hl7⟩, ((Chg.of_below (B5.out.trans (B7.out.mono B5.out.size)) (fun _ => False)).trans (Ae0 w7 d 3 _) (fun _ e => e.elim) (fun _ e => .inl e))⟩
theorem RQ.trans {k1 k2 : Chk} {w1 w2 : World} (a : R13 E d k1 w1 ∧ Chg (fun x => x = d) w w1) (b : R13 E d k2 w2 ∧ Chg (fun x => x = d) w1 w2) : R13 E d k2 w2 ∧ Chg (fun x => x = d) w w2 := ⟨b.1, a.2.trans b.2 (fun _ e => .inl e) (fun _ e => .inl e)⟩
theorem LK.dstep {α : Type} {K : Kd α} {w' : World} {v : Value} {xs : List α} (h : LK K E w v xs) (hd : E d) (c : Chg (fun x => x = d) w w') : LK K E w' v xs := h.to c (fun x e => .inl (by rw [e]; exact hd)) (fun x e => .inl e)
theorem R13.own (h : R13 E d k w) : E d := by
 obtain ⟨vl, vlo, vs, vst, vf, vr, h⟩ := h
 exact h.own
set_option maxHeartbeats 2000000 in
theorem Al4 (h : R13 E d k w) {A : Option Addr} {c : Nat} {l : List S39} (hl : LK k39 E w (.slice A l.length c) l) (hn : 0 < k.frames.length) (hm : k.ops.length + l.length ≤ 4294967295) :
  Calls Tryz.prog 34 #[.pointer (some ⟨d, 0, none⟩), .slice A l.length c] w (RQ E d { k with ops := k.ops ++ l } (.int .i64 0) w) := by
 have H0 := zA h
 obtain ⟨vl, vlo, vs, vst, vf, vr, hv⟩ := h
 obtain ⟨Af, cf, rfl⟩ := hv.frs.slice
 obtain ⟨m, hmm⟩ : ∃ m, m = (k.frames.map Fr.q).length := ⟨_, rfl⟩
 have c4 := hv.c4
 rw [← hmm] at c4
 have hmz : m ≠ 0 := by rw [hmm, List.length_map]; omega
 have hm0 : ((m : Int) == 0) = false := beq_eq_false_iff_ne.mpr (by omega)
 have hm1 : (m == 0) = false := beq_eq_false_iff_ne.mpr hmz
 have hm2 : decide (m = 0) = false := decide_eq_false hmz
 have HL := zA hl
 have HM := zA hm
 have HNF := zA hn
 have hl0 : l.length ≤ 9223372036854775807 := by omega
 obtain ⟨n, hnn⟩ : ∃ n, n = l.length := ⟨_, rfl⟩
 rw [← hnn] at HL hl0 ⊢
 have HN := zA hnn
 clear hv hl hn hm hnn hmm hmz
 go_enter Tryz.func34, Tryz.ntmps34
 go_wp2_with fail
 go_loopw [5] (fun i W => ∃ j : Nat, i = .int .i64 j ∧ j ≤ n ∧ R13 E d { k with ops := k.ops ++ l.take j } W ∧ Chg (fun x => x = d) w W) (fun i _ => n - (intOf i).toNat)
 case atStart => exact ⟨0, rfl, Nat.zero_le _, by simpa using H0.out, Chg.refl _ _⟩
 case round =>
  obtain ⟨j, rfl, hj, hr, hc⟩ := hrel
  have Q := zA (And.intro hr hc)
  by_cases hlt : j < n
  ·obtain ⟨x, hx⟩ : ∃ x, l[j]? = some x := ⟨_, List.getElem?_eq_getElem (by rw [← HN.out]; exact hlt)⟩
   have LW := HL.out.dstep H0.out.own hc
   obtain ⟨ad, eA, x0, x1, x2⟩ := Bg7 LW.reads.2.2 hx
   subst eA
   have K := Bu0 hr x HNF.out (by dsimp only; rw [List.length_append, List.length_take]; have := HM.out; omega)
   have HX := zA hx
   have HLT := zA hlt
   have hlt2 : (j : Int) < (n : Int) := by omega
   clear hx LW hr hc c4 hm0 hm1 hm2
   go_wp2_with fail
   refine K.mono ?_
   rintro e w2 ⟨rfl, h2⟩
   have Q2 := zA (RQ.trans Q.out h2)
   clear h2 K x0 x1 x2
   go_wp2_with fail
   go_roundw
   case rel => exact ⟨j + 1, by go_num, HLT.out, by have h_ := Q2.out.1; rw [List.take_add_one, HX.out]; simpa using h_, Q2.out.2⟩
   case measure => have := HLT.out; simp [intOf]; omega
  ·obtain rfl : j = n := by omega
   clear hlt hr hc
   go_wp2_with fail
   go_ret
   exact ⟨rfl, by have h_ := Q.out.1; rw [List.take_of_length_le (by have := HN.out; omega)] at h_; exact h_, Q.out.2⟩
end
structure QAt (F : Nat → Prop) (W : World) (a : Addr) (f : Fr) (A1 : Option Addr) (c1 : Nat) (A2 : Option Addr) (c2 : Nat) (A4 : Option Addr) (c4 : Nat) : Prop where
 op : W.cell? a = some (.int .i64 f.op)
 ins : W.cell? ⟨a.block, a.off + 1, none⟩ = some (.slice A1 f.ins.length c1)
 outs : W.cell? ⟨a.block, a.off + 2, none⟩ = some (.slice A2 f.outs.length c2)
 height : W.cell? ⟨a.block, a.off + 3, none⟩ = some (.int .i64 f.height)
 sets : W.cell? ⟨a.block, a.off + 4, none⟩ = some (.slice A4 f.sets.length c4)
 dead : W.cell? ⟨a.block, a.off + 5, none⟩ = some (.bool f.dead)
 fk : Kd.FK k139 W F f.q [.int .i64 f.op, .slice A1 f.ins.length c1, .slice A2 f.outs.length c2, .int .i64 f.height, .slice A4 f.sets.length c4, .bool f.dead]
theorem By3 {F : Nat → Prop} {W : World} {A : Option Addr} {n : Nat} {xs : List Fr} (h : Kd.F k139 W F A n (xs.map Fr.q)) {j : Nat} {f : Fr} (hj : xs[j]? = some f) : ∃ ad A1 c1 A2 c2 A4 c4, A = some ad ∧ QAt F W (ad.add (j * 6)) f A1 c1 A2 c2 A4 c4 := by
 obtain ⟨hl, hm, hn⟩ := Kd.Bg3 h
 have hjl := (List.getElem?_eq_some_iff.1 hj).1
 rw [List.length_map] at hl
 obtain ⟨ad, rfl, hc⟩ := hn (by omega)
 obtain ⟨c, hcl, hK, hcc0⟩ := hc j f.q (by rw [List.getElem?_map, hj]; rfl)
 have hcc : ∀ i u, c[i]? = some u → W.cell? (ad.add (j * 6 + i)) = some u := hcc0
 have hK2 := hK
 obtain ⟨A1, c1, A2, c2, A4, c4, rfl, _⟩ := Ax7 hK
 exact ⟨ad, A1, c1, A2, c2, A4, c4, rfl, hcc 0 _ rfl, by rw [← Ad2 _ _ 1 (by omega)]; exact hcc 1 _ rfl, by rw [← Ad2 _ _ 2 (by omega)]; exact hcc 2 _ rfl, by rw [← Ad2 _ _ 3 (by omega)]; exact hcc 3 _ rfl, by rw [← Ad2 _ _ 4 (by omega)]; exact hcc 4 _ rfl, by rw [← Ad2 _ _ 5 (by omega)]; exact hcc 5 _ rfl, hK2⟩
theorem LK.Cd9 {α : Type} {K : Kd α} {E : Nat → Prop} {w w' : World} {v : Value} {xs : List α} (h : LK K E w v xs) (hb : Below w.heap.size w w') {A : Option Addr} {n c : Nat} (hv : v = .slice A n c) : Kd.F K w' (fun y => ¬ E y ∧ y < w.heap.size) A n xs := by
 subst hv
 exact Kd.Cn1 (Kd.Cn0 h.F) hb
theorem lk_of_cr {α : Type} {d : Kd α} {e : Nat} {ok S : Nat → Prop} {W : World} {A : Option Addr} {c n : Nat} {rows : List (List Value)} {xs : List α} (hcr : CR d.sz e ok W A c rows) (hl : rows.length = xs.length) (hn : n = xs.length) (hf : ∀ (j : Nat) (x : α) (cs : List Value), xs[j]? = some x → rows[j]? = some cs → Kd.FK d W (fun y => ¬ S y) x cs) (hok : ∀ y, ok y → ¬ S y) : LK d S W (.slice A n c) xs := by
 subst hn
 have h0 := hcr.reads.1
 refine LK.mk (by omega) (fun W' hW => ?_)
 have c1 := (hcr.step (W' := W') (fun z hz hl => hW z (hok z hz) hl)).reads.2
 obtain ⟨a1, a2, a3⟩ := c1
 refine ⟨rfl, by omega, fun hp => ?_⟩
 obtain ⟨ad, e1, hc⟩ := a3 (by omega)
 refine ⟨ad, e1, fun q z hz => ?_⟩
 have hql := (List.getElem?_eq_some_iff.1 hz).1
 obtain ⟨c9, d3, ⟨rfl, _⟩, d5⟩ := hc q _ (List.getElem?_eq_getElem (show q < rows.length by omega))
 exact ⟨_, d3, hf q z _ hz (List.getElem?_eq_getElem (show q < rows.length by omega)) W' (fun y hy hl => hW y hy hl), d5⟩
theorem qf_kill {E : Nat → Prop} {W : World} {base n c m : Nat} {A : Option Addr} {xs : List Fr} {f : Fr} (h : Kd.N k139 139 W base (fun y => ¬ E y) (.slice A n c) (xs.map Fr.q)) (hx : xs[m]? = some f) :
  ∃ b, A = some ⟨b, 0, none⟩ ∧ W.cell? ⟨b, m * 6 + 5, none⟩ = some (.bool f.dead) ∧ W.frozen? ⟨b, m * 6 + 5, none⟩ = false ∧ base ≤ b ∧ LK k139 E (W.setCell ⟨b, m * 6 + 5, none⟩ (.bool true)) (.slice A n c) ((xs.set m { f with dead := true }).map Fr.q) := by
 have hn := (Kd.Bn0 h).1
 have hbase := Kd.Bz8 h
 obtain ⟨h0, rows, hl, hR, hf⟩ := h
 rw [List.length_map] at hl hn
 have hml := (List.getElem?_eq_some_iff.1 hx).1
 have hcr : CR 6 139 (fun y => some y = (Value.slice A n c).ownBlock) W A c rows := ⟨rows, c, by rw [hl, ← hn]; exact Kd.Ak4 hR (Nat.zero_le _), by rw [List.take_length], .inl ⟨rfl, rfl⟩⟩
 have hi : rows[m]? = some rows[m] := List.getElem?_eq_getElem (by omega)
 obtain ⟨b, cells, rfl, hbb, hcell⟩ := hcr.at0 hi
 have hfm := hf m f.q _ (by rw [List.getElem?_map, hx]; rfl) hi
 obtain ⟨A1, c1, A2, c2, A4, c4, e1, l1, g1, l2, g2, l4, g4⟩ := Ax7 hfm
 rw [e1] at hcell
 have far : ∀ z : Nat, z ≠ b → (W.setCell ⟨b, m * 6 + 5, none⟩ (.bool true)).heap[z]? = W.heap[z]? := fun z hz => Below.heap_setCell W ⟨b, m * 6 + 5, none⟩ _ z hz
 have mv : ∀ {x : S139} {cs : List Value}, Kd.FK k139 W (fun k => ¬ E k ∧ some k ≠ (Value.slice (some ⟨b, 0, none⟩) n c).ownBlock) x cs → Kd.FK k139 (W.setCell ⟨b, m * 6 + 5, none⟩ (.bool true)) (fun y => ¬ E y) x cs := fun hk =>
  Kd.As1 (Kd.Al0 hk (fun z hz _ => far z (fun e => hz.2 (by rw [e]; rfl)))) (fun z hz => hz.1)
 refine ⟨b, rfl, hcell 5 _ rfl, Aa1 hbb _, hbase b rfl, lk_of_cr (d := k139) (hcr.put hi (j := 5) (by decide) (.bool true) rfl) (by rw [List.length_set, List.length_map, List.length_set, hl]) (by rw [List.length_map, List.length_set, hn]) (fun j x cs hx2 hcs => ?_) (fun y hy => h0 y hy.symm)⟩
 by_cases hj : m = j
 ·subst hj
  rw [List.getElem?_map, List.getElem?_set_self hml] at hx2
  rw [List.getElem?_set_self (by omega)] at hcs
  injection hcs with hcs
  simp only [Option.map_some, Option.some.injEq] at hx2
  subst hx2 hcs
  rw [e1]
  obtain ⟨B1, d1, B2, d2, B4, d4, e2, m1, k1, m2, k2, m4, k4⟩ := Ax7 (mv hfm)
  rw [e1] at e2
  simp only [List.cons.injEq, Value.slice.injEq] at e2
  obtain ⟨_, ⟨rfl, _, rfl⟩, ⟨rfl, _, rfl⟩, _, ⟨rfl, _, rfl⟩, _⟩ := e2
  exact Bl9 _ _ (Fr.q { f with dead := true }) m1 k1 m2 k2 m4 k4
 ·rw [List.getElem?_map, List.getElem?_set_ne hj] at hx2
  rw [List.getElem?_set_ne hj] at hcs
  exact mv (hf j x cs (by rw [List.getElem?_map]; exact hx2) hcs)
section
variable {E : Nat → Prop} {d : Nat} {k : Chk} {w : World}
set_option maxHeartbeats 2000000 in
theorem Al9 (m c : Nat) (ad : Addr) (w : World) (h : w.cell? ⟨d, 4, none⟩ = some (.slice (some ad) (m + 1) c)) (hm : m + 1 ≤ 4294967296) :
  Calls Tryz.prog 74 #[.pointer (some ⟨d, 0, none⟩)] w fun e w' => e = .returned (.pointer (some (ad.add (m * 6)))) ∧ Below w.heap.size w w' := by
 have hw : wrap64 (((m + 1 : Nat) : Int) - 1) = (m : Int) := by unfold wrap64; omega
 have hw2 : wrap64 (m : Int) = (m : Int) := by unfold wrap64; omega
 have hb : ((m : Int) < (m : Int) + 1) = True := by simp; omega
 have hb2 : ((m : Int) < ((m + 1 : Nat) : Int)) = True := by simp; omega
 clear hm
 go_enter Tryz.func74, Tryz.ntmps74
 go_wp2_with fail
 refine Ab3 (n := 12) (S := fun w' => w'.cell? ⟨d, 4, none⟩ = some (.slice (some ad) (m + 1) c)) (ds := []) (bm_ 12 0) (by kernel_rfl) rfl rfl (h) (fun hHeld => ?_)
 refine pz_ 0 3 12 1 ?_
 refine pz_ 1 4 12 3 ?_
 refine pz_ 2 5 12 7 ?_
 refine pz_ 4 7 12 23 ?_
 refine pz_ 5 8 12 55 ?_
 refine pz_ 6 9 12 119 ?_
 refine tz_ 3 6 12 127 hHeld ?_
 refine tz_ 7 10 12 255 hHeld ?_
 refine pz_ 8 11 12 511 ?_
 refine pz_ 9 12 12 1023 ?_
 refine pz_ 10 13 12 2047 ?_
 refine pz_ 11 2 12 4095 ?_
 refine dz_ ?_

 go_wp2_with fail
 go_ret
 exact ⟨rfl, (Below.refl _ _).drew⟩
theorem RV.top {vl vlo vs vst vf vr : Value} (h : RV E d k w vl vlo vs vst vf vr) {f : Fr} (hf : k.frames[k.frames.length - 1]? = some f) : ∃ ad m cf A1 c1 A2 c2 A4 c4, vf = .slice (some ad) (m + 1) cf ∧ k.frames.length = m + 1 ∧ QAt (fun y => ¬ E y) w (ad.add (m * 6)) f A1 c1 A2 c2 A4 c4 := by
 obtain ⟨Af, cf, rfl⟩ := h.frs.slice
 have hl := (List.getElem?_eq_some_iff.1 hf).1
 obtain ⟨m, hm⟩ : ∃ m, k.frames.length = m + 1 := ⟨k.frames.length - 1, by omega⟩
 rw [hm, Nat.add_sub_cancel] at hf
 obtain ⟨ad, A1, c1, A2, c2, A4, c4, rfl, hq⟩ := By3 h.frs.F hf
 exact ⟨ad, m, cf, A1, c1, A2, c2, A4, c4, by rw [List.length_map, hm], hm, hq⟩
theorem LK.take {α : Type} {K : Kd α} {A : Option Addr} {c : Nat} {xs : List α} (h : LK K E w (.slice A xs.length c) xs) (m : Nat) (hm : m ≤ xs.length) : LK K E w (.slice A m c) (xs.take m) := by
 have hl : (xs.take m).length = m := by rw [List.length_take]; omega
 have h1 := Kd.F_take h.F hm
 have h2 : LK K E w (.slice A (xs.take m).length c) (xs.take m) := LK.mk (by have := h.reads.2.1; omega) h1
 rw [hl] at h2
 exact h2
set_option maxHeartbeats 8000000 in
theorem Av5 (h : R13 E d k w) {f : Fr} (hf : k.frames[k.frames.length - 1]? = some f) (hh : f.height ≤ k.ops.length) (hm : k.ops.length ≤ 4294967296) (hn : k.frames.length ≤ 4294967296) :
  Calls Tryz.prog 35 #[.pointer (some ⟨d, 0, none⟩)] w (RQ E d { k with ops := k.ops.take f.height, frames := k.frames.set (k.frames.length - 1) { f with dead := true } } (.int .i64 0) w) := by
 obtain ⟨vl, vlo, vs, vst, vf, vr, h⟩ := h
 obtain ⟨ad, m, cf, A1, c1, A2, c2, A4, c4, rfl, hfm, hq⟩ := h.top hf
 obtain ⟨As, cs, rfl⟩ := h.stk.slice
 rw [hfm, Nat.add_sub_cancel]
 rw [hfm, Nat.add_sub_cancel] at hf
 have H0 := zA h
 have HQ := zA hq
 have HF := zA hf
 have HFM := zA hfm
 have HM := zA (And.intro hm (And.intro hn hh))
 obtain ⟨no, hno⟩ : ∃ no, no = k.ops.length := ⟨_, rfl⟩
 have HNO := zA hno
 have c4 := h.c4
 have c3 := h.c3
 have hht := hq.height
 rw [← hno] at c3
 have hm1 : m + 1 ≤ 4294967296 := by omega
 have hz : (((m + 1 : Nat) : Int) == 0) = false := beq_eq_false_iff_ne.mpr (by omega)
 have hz2 : ((m : Int) + 1 == 0) = false := beq_eq_false_iff_ne.mpr (by omega)
 have hle : ((f.height : Int) ≤ (no : Int)) = True := by simp; omega
 have hcs : no ≤ cs := by rw [hno]; exact h.stk.reads.2.1
 have hcs2 : ((no : Int) ≤ (cs : Int)) = True := by simp; omega
 have hle2 : ((f.height : Int) ≤ (cs : Int)) = True := by simp; omega
 clear h hf hfm hq hm hn hh hno hcs
 go_enter Tryz.func35, Tryz.ntmps35
 go_wp2_with fail
 obtain ⟨w3, hw3⟩ : ∃ w3, World.drew w = w3 := ⟨_, rfl⟩
 have b3 : Below w.heap.size w w3 := by rw [← hw3]; exact (Below.refl _ _).drew
 have H3 := zA (H0.out.below b3)
 have B3 := zA b3
 have z3 : w3.cell? ⟨d, 3, none⟩ = some (.slice As no cs) := by rw [← hw3]; exact c3
 have z4 : w3.cell? ⟨d, 4, none⟩ = some (.slice (some ad) (m + 1) cf) := by rw [← hw3]; exact c4
 have zh : w3.cell? ⟨(ad.add (m * 6)).block, (ad.add (m * 6)).off + 3, none⟩ = some (.int .i64 f.height) := by rw [← hw3]; exact hht
 clear b3 c3 c4 hht
 refine Ab3 (n := 15) (S := fun w' => w'.cell? ⟨d, 3, none⟩ = some (.slice As no cs) ∧ w'.cell? ⟨d, 4, none⟩ = some (.slice (some ad) (m + 1) cf) ∧ w'.cell? ⟨(ad.add (m * 6)).block, (ad.add (m * 6)).off + 3, none⟩ = some (.int .i64 f.height)) (ds := [14]) (bm_ 15 0) (by kernel_rfl) rfl rfl ⟨(by rw [hw3]; exact z3), (by rw [hw3]; exact z4), (by rw [hw3]; exact zh)⟩ (fun hHeld => ?_)
 rw [hw3] at hHeld ⊢
 clear hw3 z3 z4 zh
 refine pz_ 0 11 15 1 ?_
 refine pz_ 1 12 15 3 ?_
 refine pz_ 2 13 15 7 ?_
 refine pz_ 3 14 15 15 ?_
 refine pz_ 5 16 15 47 ?_
 refine tz_ 4 15 15 63 hHeld ?_
 refine oz_ 6 17 15 127 fun K hK => ?_
 refine gz_ Tryz.func74 #[.pointer (some ⟨d, 0, none⟩)] ?_
 with_reducible refine (Al9 m cf ad w3 hHeld.2.1 hm1).mono ?_
 rintro e w4 ⟨rfl, hb_⟩
 have H4 := zA (H3.out.below hb_)
 have B4 := zA (B3.out.trans (hb_.mono B3.out.size))
 have g_ : _ ∧ _ ∧ _ := ⟨hb_.kp hHeld.1, hb_.kp hHeld.2.1, hb_.kp hHeld.2.2⟩
 refine ⟨_, rfl, ?_⟩
 refine hK.out _ _ ⟨g_.1, g_.2.1, g_.2.2⟩ (fun hHeld => ?_)
 clear hK K
 refine nz_ ?_
 refine pz_ 7 18 15 255 ?_
 refine pz_ 8 19 15 511 ?_
 refine tz_ 9 20 15 1023 hHeld ?_
 refine pz_ 10 21 15 2047 ?_
 refine oz_ 11 22 15 4095 fun K hK => ?_
 refine gz_ Tryz.func67 #[.slice As f.height cs] ?_
 with_reducible refine (Af2 E E (k.ops.take f.height) w4 (by have h_ := H4.out.stk; have h9 := LK.take h_ f.height HM.out.2.2; exact h9) (by rw [List.length_take]; have := HM.out; omega) H4.out.lt).mono ?_
 rintro e w5 ⟨vn, rfl, hln, hb_⟩
 obtain ⟨An, cn, rfl⟩ := hln.slice
 have hln2 : (k.ops.take f.height).length = f.height := by rw [List.length_take]; have := HM.out; omega
 rw [hln2] at hln ⊢
 have LN := zA hln
 have H5 := zA (H4.out.below hb_)
 have B5 := zA (B4.out.trans (hb_.mono B4.out.size))
 have g_ : _ ∧ _ ∧ _ := ⟨hb_.kp hHeld.1, hb_.kp hHeld.2.1, hb_.kp hHeld.2.2⟩
 clear hln hln2
 refine ⟨_, rfl, ?_⟩
 refine hK.out _ _ ⟨g_.1, g_.2.1, g_.2.2⟩ (fun hHeld => ?_)
 clear hK K
 refine nz_ ?_
 refine pz_ 12 23 15 8191 ?_
 refine pz_ 13 24 15 16383 ?_
 refine Ag8 (i := 14) (N := none) (bm_ 15 32767) rfl rfl (by kernel_rfl) (by decide) (fun K hK => ?_)
 have hs_ : w5.cell? ⟨d, 3, none⟩ = some (.slice As no cs) := by have h_ := H5.out.c3; rw [← HNO.out] at h_; exact h_
 have hfs_ : w5.frozen? ⟨d, 3, none⟩ = false := Aa1 H5.out.box 3
 refine sz_ ?_
 refine hK.out _ _ ?_
 clear hK K
 refine dz_ ?_

 have S6 := zA (H5.out.stack LN.out)
 have C6 : Aa2 (Chg (fun x => x = d) w (w5.setCell ⟨d, 3, none⟩ (.slice An f.height cn))) := ⟨(Chg.of_below B5.out (fun _ => False)).trans (Ae0 w5 d 3 _) (fun _ e => e.elim) (fun _ e => .inl e)⟩
 obtain ⟨w6, hw6⟩ : ∃ w6, w6 = w5.setCell ⟨d, 3, none⟩ (.slice An f.height cn) := ⟨_, rfl⟩
 rw [← hw6] at S6 C6 ⊢
 clear hw6 hle hcs2 hle2 hz hz2
 go_wp2_with fail
 go_loopw [3, 4] (fun v i W => ∃ j : Nat, i = .int .i64 j ∧ j ≤ m + 1 ∧ Kd.N k139 139 W w6.heap.size (fun y => ¬ E y) v ((k.frames.take j).map Fr.q) ∧ Below w6.heap.size w6 W) (fun _ i _ => m + 1 - (intOf i).toNat)
 case atStart => exact ⟨0, rfl, Nat.zero_le _, Kd.N_nil _ _ _ _ _, Below.refl _ _⟩
 case round =>
  obtain ⟨j, rfl, hj, hr, hb⟩ := hrel
  have R := zA hr
  have B := zA hb
  have c4 : wr.cell? ⟨d, 4, none⟩ = some (.slice (some ad) (m + 1) cf) := (S6.out.below hb).c4
  by_cases hlt : j < m + 1
  ·obtain ⟨x, hx⟩ : ∃ x, k.frames[j]? = some x := ⟨_, List.getElem?_eq_getElem (by have := HFM.out; omega)⟩
   obtain ⟨ad', D1, e1, D2, e2, D4, e4, eA, hqa⟩ := By3 (S6.out.frs.Cd9 hb rfl) hx
   injection eA with eA
   subst eA
   obtain ⟨x0, x1, x2, x3, x4, x5, hfk⟩ := hqa
   obtain ⟨Aj, cj, ev⟩ := Kd.As0 hr
   have hlen : ((k.frames.take j).map Fr.q).length = j := by rw [List.length_map, List.length_take]; have := HFM.out; omega
   rw [hlen] at ev
   subst ev
   have HX := zA hx
   have HLT := zA hlt
   have HLEN := zA hlen
   have HFK := zA hfk
   have hlt2 : (j : Int) < (m : Int) + 1 := by omega
   have hlt3 : (j : Int) < ((m + 1 : Nat) : Int) := by omega
   have NB : Aa2 (∀ y, (Value.slice Aj j cj).ownBlock = some y → w6.heap.size ≤ y) := ⟨Kd.Bz8 hr⟩
   clear hx hr hb hlen hfk
   go_wp2_with (at_builtin; refine Kd.Bz9 k139 (w0 := w6) w6.heap.size rfl (.tmp 34) (.tmp 42) 62 139 (.agg #[.int .i64 0, .slice none 0 0, .slice none 0 0, .int .i64 0, .slice none 0 0, .bool false]) 96 rfl Tryz.underlying62 Bm2 rfl (by decide) (by decide) (.slice Aj j cj) ((k.frames.take j).map Fr.q) x.q [.int .i64 x.op, .slice D1 x.ins.length e1, .slice D2 x.outs.length e2, .int .i64 x.height, .slice D4 x.sets.length e4, .bool x.dead] (fun y => ¬ E y) (fun y => ¬ E y ∧ y < w6.heap.size) rfl rfl HFK.out (fun y hy => ⟨hy.1, fun e => by have := NB.out y e.symm; have := hy.2; omega⟩) (fun y hy e => by have := S6.out.lt y e; have := B.out.size; omega) R.out B.out B.out.size (by have := HLEN.out; omega) ?_; intro v1 w1 hr1 hb1 _ _; have R1 := zA hr1; have B1 := zA hb1; clear hr1 hb1)
   go_roundw
   case rel => exact ⟨j + 1, by go_num, HLT.out, by rw [List.take_add_one, HX.out, List.map_append]; exact R1.out, B1.out⟩
   case measure => have := HLT.out; simp [intOf]; omega
  ·obtain rfl : j = m + 1 := by omega
   clear hlt
   have hfull : (k.frames.take (m + 1)) = k.frames := List.take_of_length_le (by have := HFM.out; omega)
   have hr' := R.out
   rw [hfull] at hr'
   obtain ⟨Al, cl, ev⟩ := Kd.As0 hr'
   rw [List.length_map, HFM.out] at ev
   subst ev
   obtain ⟨b, eb, hcd, hfd, hbge, hlk⟩ := qf_kill hr' HF.out
   subst eb
   have c4 : wr.cell? ⟨d, 4, none⟩ = some (.slice (some ad) (m + 1) cf) := (S6.out.below B.out).c4
   have f4 : wr.frozen? ⟨d, 4, none⟩ = false := Aa1 (S6.out.below B.out).box 4
   have hbd : b ≠ d := by have := S6.out.lt d S6.out.own; omega
   have hw : wrap64 (((m + 1 : Nat) : Int) - 1) = (m : Int) := by unfold wrap64; omega
   have hw2 : wrap64 (m : Int) = (m : Int) := by unfold wrap64; omega
   have hb1 : ((m : Int) < (m : Int) + 1) = True := by simp; omega
   have hb2 : ((m : Int) < ((m + 1 : Nat) : Int)) = True := by simp; omega
   have cw : Chg (fun x => x = b) w6 (wr.setCell ⟨b, m * 6 + 5, none⟩ (.bool true)) := (Chg.of_below B.out (fun _ => False)).trans (Ae0 wr b (m * 6 + 5) (.bool true)) (fun _ e => e.elim) (fun _ e => .inl e)
   have S7a := S6.out.chg cw (E' := E) (fun x e => .inr (by rw [e]; exact hbge)) (fun _ e => .inl e) S6.out.own (fun x e => Nat.lt_of_lt_of_le (S6.out.lt x e) cw.size)
   have S7 := zA (S7a.frames hlk)
   have C7 : Aa2 (Chg (fun x => x = d) w6 ((wr.setCell ⟨b, m * 6 + 5, none⟩ (.bool true)).setCell ⟨d, 4, none⟩ (.slice (some ⟨b, 0, none⟩) (m + 1) cl))) := ⟨cw.trans (Ae0 _ d 4 _) (fun x e => .inr (by rw [e]; exact hbge)) (fun _ e => .inl e)⟩
   clear hlk cw S7a hr'
   go_wp2_with fail
   go_ret
   exact ⟨rfl, ⟨_, _, _, _, _, _, S7.out⟩, C6.out.trans C7.out (fun _ e => .inl e) (fun _ e => .inl e)⟩
end
end Go.Proofs.YtohlmkcgempdlaaGreatDoor.Cn
