/- Parts of the proof of vctlOpens_holds (19 of 22): what it says and shows stands at its declarations. -/
import Derived.Test.YtohlmkcgempdlaaGreatDoorZO18
import Derived.Sort.OwnSortedInts
namespace Go.Proofs.YtohlmkcgempdlaaGreatDoor.Cn
set_option linter.unusedSimpArgs false
set_option maxRecDepth 100000
set_option linter.unusedVariables false
open Go.RowKit Go.Maps Go.Proofs.YtohlmkcgempdlaaGreatDoorW.PrintWords Go.Proofs.YtohlmkcgempdlaaGreatDoorW.PrintLast Go.Proofs.YtohlmkcgempdlaaGreatDoorW.PrintMore Go.Proofs.YtohlmkcgempdlaaGreatDoor.QD
structure LO (left : Lit → Bool) (p : List Int) : Prop where
 left : ∀ x : Int, left (.int .i64 x) = true ↔ x ∈ OPS ∧ x ∉ p
 sub : ∀ x ∈ p, x ∈ OPS
 nodup : p.Nodup
theorem Al8 (w : World) : Calls Tryz.prog 9 #[] w fun e w' => e = .returned (.bool true) ∧ Below w.heap.size w w' := by
 have K : Calls Tryz.prog 23 #[.agg #[.slice none 0 0, .slice none 0 0, .slice none 0 0, .slice none 0 0, .slice none 0 0, .slice none 0 0, .slice none 0 0, .int .i64 0, .slice none 0 0], .int .i64 0] w (FtOut ([], [], 150) w) :=
  Bb7 none 0 [] none 0 [] none 0 [] none 0 [] none 0 [] none 0 [] none 0 [] 0 none 0 [] 0 w ⟨Kd.Az9 _ _, Nat.le_refl _, Kd.Az9 _ _, Nat.le_refl _, Kd.Az9 _ _, Nat.le_refl _, Kd.Az9 _ _, Nat.le_refl _, Kd.Az9 _ _, Nat.le_refl _, Kd.Az9 _ _, Nat.le_refl _, Kd.Az9 _ _, Nat.le_refl _, Kd.Az9 _ _, Nat.le_refl _, by decide⟩ (by constructor <;> decide)
 go_enter Tryz.func9, Tryz.ntmps9
 go_wp2_with fail
 refine K.mono ?_
 rintro e w2 ⟨v1, v2, rfl, R1, R2, hb⟩
 have HB := zA hb
 clear hb R1 R2 K
 go_wp2_with fail
 go_ret
 exact ⟨rfl, HB.out⟩
end Go.Proofs.YtohlmkcgempdlaaGreatDoor.Cn
namespace Go.Proofs.YtohlmkcgempdlaaGreatDoor.Cx
set_option linter.unusedSimpArgs false
set_option maxRecDepth 100000
set_option linter.unusedVariables false
open Go.RowKit Go.Maps Go.Proofs.YtohlmkcgempdlaaGreatDoorW.PrintWords Go.Proofs.YtohlmkcgempdlaaGreatDoorW.PrintLast Go.Proofs.YtohlmkcgempdlaaGreatDoor.QD Go.Proofs.YtohlmkcgempdlaaGreatDoor.Opb Go.Proofs.YtohlmkcgempdlaaGreatDoor.Cn
theorem Ay1 {x : Int} (h : (Lit.int .i64 x).wf = true) : NV64 x := by
 simp only [Lit.wf, Bool.and_eq_true, decide_eq_true_eq] at h
 exact h
theorem oInt : Opb Tryz.prog 3 (Kd.int .i64) (fun _ => True) (fun _ => 1) := (Opb.int Tryz.underlying3 (by kernel_rfl)).imp (fun _ _ => trivial) (fun _ => Nat.le_refl _)
theorem Bu6 : Opb Tryz.prog 4 Kd.bool (fun _ => True) (fun _ => 1) := (Opb.bool Tryz.underlying4 (by kernel_rfl)).imp (fun _ _ => trivial) (fun _ => Nat.le_refl _)
theorem oVT : Opb Tryz.prog 39 k39 (fun _ => True) (fun _ => 1) :=
 (Opb.iso (Opb.struct Tryz.underlying39 (by kernel_rfl) (OpbF.cons oInt rfl rfl (OpbF.cons Bu6 rfl rfl (OpbF.last oInt rfl)))) (fun x : S39 => (x.f0, x.f1, x.f2)) (fun x => ⟨x.1, x.2.1, x.2.2⟩) (fun _ => rfl)).imp (fun _ _ => trivial) (fun _ => by omega)
theorem Bp3 {α : Type} (l : List α) : (l.map fun _ => 1).sum = l.length := by
 induction l with
 | nil => rfl
 | cons x l ih => simp only [List.map_cons, List.sum_cons, ih, List.length_cons]; omega
theorem oVTs : Opb Tryz.prog 27 (Kd.slice 39 k39) (fun _ => True) (fun xs => xs.length) := (Opb.slice Tryz.underlying27 (by kernel_rfl) oVT).imp (fun _ _ => trivial) (fun _ => by rw [Bp3]; omega)
theorem oLim : Opb Tryz.prog 212 k212 (fun _ => True) (fun _ => 1) :=
 (Opb.iso (Opb.struct Tryz.underlying212 (by kernel_rfl) (OpbF.cons Bu6 rfl rfl (OpbF.cons (Opb.int (by kernel_rfl) (by kernel_rfl)) rfl rfl (OpbF.cons (Opb.int (by kernel_rfl) (by kernel_rfl)) rfl rfl (OpbF.last Bu6 rfl))))) (fun x : S212 => (x.f0, x.f1, x.f2, x.f3)) (fun x => ⟨x.1, x.2.1, x.2.2.1, x.2.2.2⟩) (fun _ => rfl)).imp (fun _ _ => trivial) (fun _ => by omega)
theorem oTT : Opb Tryz.prog 214 k214 (fun _ => True) (fun _ => 1) :=
 (Opb.iso (Opb.struct Tryz.underlying214 (by kernel_rfl) (OpbF.cons oVT rfl rfl (OpbF.last oLim rfl))) (fun x : S214 => (x.f0, x.f1)) (fun x => ⟨x.1, x.2⟩) (fun _ => rfl)).imp (fun _ _ => trivial) (fun _ => by omega)
theorem oGT : Opb Tryz.prog 292 k292 (fun _ => True) (fun _ => 1) :=
 (Opb.iso (Opb.struct Tryz.underlying292 (by kernel_rfl) (OpbF.cons oVT rfl rfl (OpbF.last Bu6 rfl))) (fun x : S292 => (x.f0, x.f1)) (fun x => ⟨x.1, x.2⟩) (fun _ => rfl)).imp (fun _ _ => trivial) (fun _ => by omega)
theorem oTTs : Opb Tryz.prog 24 (Kd.slice 214 k214) (fun _ => True) (fun _ => 0) := (Opb.slice Tryz.underlying24 (by kernel_rfl) oTT).imp (fun _ _ => trivial) (fun _ => by omega)
theorem oLims : Opb Tryz.prog 25 (Kd.slice 212 k212) (fun _ => True) (fun _ => 0) := (Opb.slice Tryz.underlying25 (by kernel_rfl) oLim).imp (fun _ _ => trivial) (fun _ => by omega)
theorem oGTs : Opb Tryz.prog 26 (Kd.slice 292 k292) (fun _ => True) (fun _ => 0) := (Opb.slice Tryz.underlying26 (by kernel_rfl) oGT).imp (fun _ _ => trivial) (fun _ => by omega)
theorem oBools : Opb Tryz.prog 28 (Kd.slice 4 Kd.bool) (fun _ => True) (fun _ => 0) := (Opb.slice Tryz.underlying28 (by kernel_rfl) Bu6).imp (fun _ _ => trivial) (fun _ => by omega)
abbrev kCtx := Kd.pair (Kd.slice 132 k132) (Kd.pair (Kd.slice 3 (Kd.int .i64)) (Kd.pair (Kd.slice 214 k214) (Kd.pair (Kd.slice 212 k212) (Kd.pair (Kd.slice 292 k292) (Kd.pair (Kd.slice 3 (Kd.int .i64)) (Kd.pair (Kd.slice 39 k39) (Kd.pair (Kd.int .i64) (Kd.slice 4 Kd.bool))))))))
abbrev Ci8 := Kd.pair (Kd.int .i64) k39
theorem oBlock : Opb Tryz.prog 41 Ci8 (fun x => NV64 x.1) (fun _ => 1) :=
 (Opb.struct Tryz.underlying41 (by kernel_rfl) (OpbF.cons ((Opb.int Tryz.underlying3 (by kernel_rfl)).imp (fun _ h => Ay1 h) (fun _ => Nat.le_refl _)) rfl rfl (OpbF.last oVT rfl))).imp (fun _ h => h.1) (fun _ => by omega)
theorem Ce0 {W : World} {x : Int × S39} {cs : List Value} (h : Ci8.K W x cs) : cs = [.int .i64 x.1, .int .i64 x.2.f0, .bool x.2.f1, .int .i64 x.2.f2] := by
 obtain ⟨_, _, rfl, rfl, s⟩ := h
 obtain rfl := An3 s
 rfl
end Go.Proofs.YtohlmkcgempdlaaGreatDoor.Cx
namespace Go.Proofs.YtohlmkcgempdlaaGreatDoor.Cn
set_option linter.unusedSimpArgs false
set_option maxRecDepth 100000
set_option linter.unusedVariables false
open Go.RowKit Go.Maps Go.Proofs.YtohlmkcgempdlaaGreatDoorW.PrintWords Go.Proofs.YtohlmkcgempdlaaGreatDoorW.PrintLast Go.Proofs.YtohlmkcgempdlaaGreatDoorW.PrintMore Go.Proofs.YtohlmkcgempdlaaGreatDoor.QD
structure BT (w1 : World) (S : Nat → Prop) (g d : Nat) (k k2 : Chk) (W : World) : Prop where
 st : St (fun x => x = d) S g k W
 rs : R13 (fun x => S x ∨ x = d) d k2 W
 nS : ∀ x, S x → w1.heap.size ≤ x
 nd : w1.heap.size ≤ d
 bel : Below w1.heap.size w1 W
section
variable {w1 : World} {S S' : Nat → Prop} {g d : Nat} {k k' k2 k2' : Chk} {W W' : World}
theorem St.apart (h : St (fun x => x = d) S g k W) : ∀ x, S x → x ≠ d := by
 obtain ⟨v1, v2, v3, v4, ao, co, af, cf, h⟩ := h
 exact h.apart
theorem BT.prog (h : BT w1 S g d k k2 W) (q : Kst (fun x => x = d) S g W k' S' W') : BT w1 S' g d k' k2 W' := by
 have hS : ∀ x, S' x → w1.heap.size ≤ x := fun x e => (q.grow x e).elim (h.nS x) (fun l => Nat.le_trans h.bel.size l)
 refine ⟨q.st, ?_, hS, h.nd, Af5 ((Chg.of_below h.bel (fun _ => False)).trans (K := S) q.chg (fun _ e => e.elim) (fun x e => .inl e)) (Nat.le_refl _) (fun x e => h.nS x e)⟩
 obtain ⟨a1, a2, a3, a4, a5, a6, hr⟩ := h.rs
 exact ⟨a1, a2, a3, a4, a5, a6, hr.chg q.chg (fun x e => .inl ⟨.inl e, h.st.apart x e⟩) (fun x e => e.elim (fun e => (q.grow x e).imp .inl id) (fun e => .inl (.inr e))) (.inr rfl) (fun x e => q.st.lt x e)⟩
theorem BT.ref (h : BT w1 S g d k k2 W) (hr : R13 (fun x => S x ∨ x = d) d k2' W') (hc : Chg (fun x => x = d) W W') : BT w1 S g d k k2' W' :=
 ⟨h.st.chg hc (fun x e => .inl e), hr, h.nS, h.nd, Af5 ((Chg.of_below h.bel (fun _ => False)).trans (K := fun x => x = d) hc (fun _ e => e.elim) (fun x e => .inl e)) (Nat.le_refl _) (fun x e => by rw [e]; exact h.nd)⟩
theorem BT.below (h : BT w1 S g d k k2 W) (hb : Below W.heap.size W W') : BT w1 S g d k k2 W' :=
 ⟨h.st.below hb, h.rs.below hb, h.nS, h.nd, h.bel.trans (hb.mono h.bel.size)⟩
theorem BT.down {w0 : World} (h : BT w1 S g d k k2 W) (hb : Below w0.heap.size w0 w1) : BT w0 S g d k k2 W :=
 ⟨h.st, h.rs, fun x e => Nat.le_trans hb.size (h.nS x e), Nat.le_trans hb.size h.nd, hb.trans (h.bel.mono hb.size)⟩
theorem BT.lent {α : Type} {K : Kd α} {A : Option Addr} {c : Nat} {xs : List α} (h : BT w1 S g d k k2 W) (hd : Kd.Heap K) (hl : xs.length ≤ c) (hC : K.C w1 A xs.length xs) : LK K (fun x => S x ∨ x = d) W (.slice A xs.length c) xs :=
 LK.lent hd hl hC h.bel (fun x e => e.elim (h.nS x) (fun e => by rw [e]; exact h.nd))
end
structure Bs1 (w : World) (AP : Option Addr) (cP : Nat) (ps : List S39) (AL : Option Addr) (cL : Nat) (ls : List S39) (AR : Option Addr) (cR : Nat) (rs : List S39) (AD : Option Addr) (cD : Nat) (dp : List (List S39)) (AS : Option Addr) (cS : Nat) (st : List S39) : Prop where
 p : Kd.C k39 w AP ps.length ps
 hp : ps.length ≤ cP
 l : Kd.C k39 w AL ls.length ls
 hl : ls.length ≤ cL
 r : Kd.C k39 w AR rs.length rs
 hr : rs.length ≤ cR
 d : Kd.C (Kd.slice 39 k39) w AD dp.length dp
 hd : dp.length ≤ cD
 s : Kd.C k39 w AS st.length st
 hs : st.length ≤ cS
 bp : ps.length ≤ 1048576
 bl : ls.length ≤ 1048576
 br : rs.length ≤ 1048576
 bd : dp.length ≤ 1048576
 bs : st.length ≤ 1048576
 bt : ∀ t ∈ dp, t.length ≤ 1048576
theorem Bs1.below {w w' : World} {AP : Option Addr} {cP : Nat} {ps : List S39} {AL : Option Addr} {cL : Nat} {ls : List S39} {AR : Option Addr} {cR : Nat} {rs : List S39} {AD : Option Addr} {cD : Nat} {dp : List (List S39)} {AS : Option Addr} {cS : Nat} {st : List S39} (h : Bs1 w AP cP ps AL cL ls AR cR rs AD cD dp AS cS st) (hb : Below w.heap.size w w') : Bs1 w' AP cP ps AL cL ls AR cR rs AD cD dp AS cS st :=
 ⟨Kd.Ab1 h.p hb, h.hp, Kd.Ab1 h.l hb, h.hl, Kd.Ab1 h.r hb, h.hr, Kd.Ab1 h.d hb, h.hd, Kd.Ab1 h.s hb, h.hs, h.bp, h.bl, h.br, h.bd, h.bs, h.bt⟩
theorem dp_at {w : World} {A : Option Addr} {n : Nat} {dp : List (List S39)} (h : Kd.C (Kd.slice 39 k39) w A n dp) {j : Nat} {t : List S39} (hj : dp[j]? = some t) : ∃ ad Aj cj, A = some ad ∧ w.cell? (ad.add j) = some (.slice Aj t.length cj) ∧ t.length ≤ cj ∧ Kd.C k39 w Aj t.length t := by
 have hjl := (List.getElem?_eq_some_iff.1 hj).1
 obtain ⟨a1, a2, a3⟩ := h
 obtain ⟨ad, e1, hc⟩ := a3 (by omega)
 obtain ⟨cs, h1, ⟨Aj, cj, rfl, h3, h4⟩, h5⟩ := hc j t hj
 refine ⟨ad, Aj, cj, e1, ?_, h3, h4⟩
 have := h5 0 _ rfl
 rw [Nat.add_zero, show (Kd.slice 39 k39).sz = 1 from rfl, Nat.mul_one] at this
 exact this
def frs0 (rs : List S39) (sets : List Bool) (dp : List (List S39)) : List Fr := ⟨2, [], rs, 0, sets, false⟩ :: dp.map (fun t => ⟨2, [], t, 0, sets, false⟩)
theorem Ck1 (rs : List S39) (sets : List Bool) (dp : List (List S39)) (t : List S39) : frs0 rs sets (dp ++ [t]) = frs0 rs sets dp ++ [⟨2, [], t, 0, sets, false⟩] := by
 unfold frs0
 rw [List.map_append]
 rfl
theorem Ak1 (rs : List S39) (sets : List Bool) (dp : List (List S39)) : (frs0 rs sets dp).length = dp.length + 1 := by simp [frs0]
theorem Be7 (rs : List S39) (sets : List Bool) (dp : List (List S39)) : ∃ f, (frs0 rs sets dp)[(frs0 rs sets dp).length - 1]? = some f ∧ f.height = 0 ∧ f.dead = false := by
 obtain ⟨f, hf⟩ : ∃ f, (frs0 rs sets dp)[(frs0 rs sets dp).length - 1]? = some f := ⟨_, List.getElem?_eq_getElem (by rw [Ak1]; omega)⟩
 refine ⟨f, hf, ?_⟩
 have hm := List.mem_of_getElem? hf
 unfold frs0 at hm
 rcases List.mem_cons.1 hm with h | h
 ·rw [h]; exact ⟨rfl, rfl⟩
 ·obtain ⟨t, _, rfl⟩ := List.mem_map.1 h
  exact ⟨rfl, rfl⟩
def killL (xs : List Fr) : List Fr := match xs[xs.length - 1]? with
 | some f => xs.set (xs.length - 1) { f with dead := true }
 | none => xs
theorem Ba7 {xs : List Fr} {f : Fr} (h : xs[xs.length - 1]? = some f) : killL xs = xs.set (xs.length - 1) { f with dead := true } := by
 unfold killL
 rw [h]
def begK (l : List S132) (ps ls rs : List S39) (dp : List (List S39)) (st : List S39) (dead : Bool) : Chk :=
 ⟨l, ps ++ ls, Ae2 ps.length (ps ++ ls), rs, st, if dead then killL (frs0 rs (Ae2 ps.length (ps ++ ls)) dp) else frs0 rs (Ae2 ps.length (ps ++ ls)) dp⟩
def BegOut (k : Chk) (w : World) (e : Ending) (w' : World) : Prop := ∃ g d S, e = .returned (.tuple #[.pointer (some ⟨g, 0, none⟩), .pointer (some ⟨d, 0, none⟩)]) ∧ BT w S g d k k w'
theorem pops_nil (l : List S132) (h : Nat) (dead : Bool) (ops : List S39) : Al5 l h dead [] ops = (0, ops) := by
 unfold Al5
 simp [Ah5]
set_option maxHeartbeats 16000000 in
theorem Bw7 (A0 : Option Addr) (c0 : Nat) (l0 : List S132) (A1 : Option Addr) (c1 : Nat) (l1 : List Int) (A2 : Option Addr) (c2 : Nat) (l2 : List S214) (A3 : Option Addr) (c3 : Nat) (l3 : List S212) (A4 : Option Addr) (c4 : Nat) (l4 : List S292) (A5 : Option Addr) (c5 : Nat) (l5 : List Int) (A6 : Option Addr) (c6 : Nat) (l6 : List S39) (d7 : Int) (A8 : Option Addr) (c8 : Nat) (l8 : List Bool) (AP : Option Addr) (cP : Nat) (ps : List S39) (AL : Option Addr) (cL : Nat) (ls : List S39) (AR : Option Addr) (cR : Nat) (rs : List S39) (AD : Option Addr) (cD : Nat) (dp : List (List S39)) (AS : Option Addr) (cS : Nat) (st : List S39) (dead : Bool) (w : World) (hx : XIn w A0 c0 l0 A1 c1 l1 A2 c2 l2 A3 c3 l3 A4 c4 l4 A5 c5 l5 A6 c6 l6 d7 A8 c8 l8) (hw : Bs1 w AP cP ps AL cL ls AR cR rs AD cD dp AS cS st) (hg : GOk l0) (hq : RTs l0) (htab : Lib.TabBelow Tryz.prog w.heap.size w "internal/strconv.uint64pow10" .u64 Lib.pow10Tab) :
  Calls Tryz.prog 10 #[.agg #[.slice A0 l0.length c0, .slice A1 l1.length c1, .slice A2 l2.length c2, .slice A3 l3.length c3, .slice A4 l4.length c4, .slice A5 l5.length c5, .slice A6 l6.length c6, .int .i64 d7, .slice A8 l8.length c8, .slice AP ps.length cP, .slice AL ls.length cL, .slice AR rs.length cR, .slice AD dp.length cD, .slice AS st.length cS, .bool dead]] w (BegOut (begK l0 ps ls rs dp st dead) w) := by
 obtain ⟨w1, hw1⟩ : ∃ w1, w1 = w.alloc (.cells #[.slice A0 l0.length c0, .slice A1 l1.length c1, .slice A2 l2.length c2, .slice A3 l3.length c3, .slice A4 l4.length c4, .slice A5 l5.length c5, .slice A6 l6.length c6, .int .i64 d7, .slice A8 l8.length c8, .slice AP ps.length cP, .slice AL ls.length cL, .slice AR rs.length cR, .slice AD dp.length cD, .slice AS st.length cS, .bool dead] 33) := ⟨_, rfl⟩
 have b1 : Below w.heap.size w w1 := by rw [hw1]; exact bz_
 have BX := zA (show w1.heap[w.heap.size]? = some (.cells #[.slice A0 l0.length c0, .slice A1 l1.length c1, .slice A2 l2.length c2, .slice A3 l3.length c3, .slice A4 l4.length c4, .slice A5 l5.length c5, .slice A6 l6.length c6, .int .i64 d7, .slice A8 l8.length c8, .slice AP ps.length cP, .slice AL ls.length cL, .slice AR rs.length cR, .slice AD dp.length cD, .slice AS st.length cS, .bool dead] 33 (0, 0)) by rw [hw1]; exact Aa6 w _)
 have X1 := zA (hx.below b1)
 have W1 := zA (hw.below b1)
 have HG := zA hg
 have BW := zA b1
 have HT : Aa2 (Lib.TabBelow Tryz.prog w.heap.size w1 "internal/strconv.uint64pow10" .u64 Lib.pow10Tab) := ⟨htab.on b1⟩
 have K0 := Cc5 (fun _ => False) A0 c0 l0 AP cP ps AL cL ls AR cR rs w1 (LK.lent Ao2 X1.out.h0 X1.out.r0 (Below.refl _ _) (fun _ e => e.elim)) (LK.lent Af8 W1.out.hp W1.out.p (Below.refl _ _) (fun _ e => e.elim)) (LK.lent Af8 W1.out.hl W1.out.l (Below.refl _ _) (fun _ e => e.elim)) (LK.lent Af8 W1.out.hr W1.out.r (Below.refl _ _) (fun _ e => e.elim)) (fun _ e => e.elim) hq W1.out.bp W1.out.bl W1.out.br w.heap.size (fun _ e => e.elim) b1.size HT.out
 obtain ⟨sets, hsets⟩ : ∃ sets, sets = Ae2 ps.length (ps ++ ls) := ⟨_, rfl⟩
 have HSE := zA hsets
 have HSL : Aa2 (sets.length ≤ 2097152) := ⟨by rw [hsets, Ad7, List.length_append]; have := W1.out.bp; have := W1.out.bl; omega⟩
 rw [← hsets] at K0
 have z0 := bc_ BX.out 0
 have z9 := bc_ BX.out 9
 have z10 := bc_ BX.out 10
 have z11 := bc_ BX.out 11
 clear hx hw hg hq htab b1 hsets
 go_enter Tryz.func10, Tryz.ntmps10
 go_wp2_with fail
 rw [← hw1]
 clear hw1
 go_wp2_with fail
 refine K0.mono ?_
 rintro e w2 ⟨g, S2, rfl, hst2, hn2, hb2⟩
 have ST2 := zA hst2
 have N2 := zA hn2
 have B2 := zA hb2
 have lt_ : ∀ {α : Type} {K : Kd α} {A : Option Addr} {c : Nat} {xs : List α}, Kd.Heap K → xs.length ≤ c → K.C w1 A xs.length xs → LK K S2 w2 (.slice A xs.length c) xs := fun a b h_ => LK.lent a b h_ hb2 hn2
 have K1 := Cb5 S2 A0 c0 l0 AP cP ps AL cL ls AR cR rs w2 (lt_ Ao2 X1.out.h0 X1.out.r0) (lt_ Af8 W1.out.hp W1.out.p) (lt_ Af8 W1.out.hl W1.out.l) (lt_ Af8 W1.out.hr W1.out.r) (fun y e => hst2.lt y (.inl e)) W1.out.bp W1.out.bl W1.out.br w.heap.size (fun y e => Nat.le_trans BW.out.size (hn2 y e)) (Nat.le_trans BW.out.size hb2.size) (HT.out.on ⟨hb2.os, hb2.tape, hb2.output, hb2.size, fun k hk => hb2.block k (Nat.lt_of_lt_of_le hk BW.out.size)⟩)
 rw [← HSE.out] at K1
 have BX2 := Aa3 BX.out hb2
 have z0 := bc_ BX2 0
 have z9 := bc_ BX2 9
 have z10 := bc_ BX2 10
 have z11 := bc_ BX2 11
 clear hst2 hn2 hb2 lt_ BX2 K0
 go_wp2_with fail
 refine K1.mono ?_
 rintro e w3 ⟨d, rfl, hd3, hr3, hb3⟩
 have T3 : Aa2 (BT w1 S2 g d ⟨l0, ps ++ ls, sets, rs, [], frs0 rs sets []⟩ ⟨l0, ps ++ ls, sets, rs, [], frs0 rs sets []⟩ w3) := ⟨(ST2.out.more hb3 hd3 (hr3.lt d (.inr rfl))).less (fun x e => .inr e), hr3, N2.out, Nat.le_trans B2.out.size hd3, B2.out.trans (hb3.mono B2.out.size)⟩
 obtain ⟨m, hm⟩ : ∃ m, m = dp.length := ⟨_, rfl⟩
 have HM := zA hm
 have hm1 : m ≤ 1048576 := by rw [hm]; exact W1.out.bd
 rw [← hm] at BX
 clear hd3 hr3 hb3 hm K1 ST2 N2 B2 z0 z9 z10 z11
 go_wp2_with fail
 go_loopw [6] (fun i W => ∃ (j : Nat) (S : Nat → Prop), i = .int .i64 j ∧ j ≤ m ∧ BT w1 S g d ⟨l0, ps ++ ls, sets, rs, [], frs0 rs sets (dp.take j)⟩ ⟨l0, ps ++ ls, sets, rs, [], frs0 rs sets (dp.take j)⟩ W) (fun i _ => m - (intOf i).toNat)
 case atStart => exact ⟨0, _, rfl, Nat.zero_le _, T3.out⟩
 case round =>
  clear T3
  obtain ⟨j, S, rfl, hj, ht⟩ := hrel
  have T := zA ht
  have BXr := Aa3 BX.out ht.bel
  have y12 := bc_ BXr 12
  have y13 := bc_ BXr 13
  clear BXr
  by_cases hlt : j < m
  ·obtain ⟨t, htj⟩ : ∃ t, dp[j]? = some t := ⟨_, List.getElem?_eq_getElem (by rw [← HM.out]; exact hlt)⟩
   obtain ⟨ad, Aj, cj, eA, y, htl, htC⟩ := dp_at W1.out.d htj
   have yr : wr.cell? (ad.add j) = some (.slice Aj t.length cj) := ht.bel.kp y
   subst eA
   have HLT := zA hlt
   have HTJ := zA htj
   have TL := zA (And.intro htl htC)
   have HTB : Aa2 (t.length ≤ 1048576) := ⟨W1.out.bt t (List.mem_of_getElem? htj)⟩
   have HFL : Aa2 ((frs0 rs sets (dp.take j)).length ≤ 1048577) := ⟨by rw [Ak1, List.length_take]; have := W1.out.bd; omega⟩
   obtain ⟨f, hf, hf0, hf1⟩ := Be7 rs sets (dp.take j)
   have K2 : Calls Tryz.prog 31 #[.pointer (some ⟨g, 0, none⟩), .int .i64 2, .slice none 0 0, .slice Aj t.length cj] wr (KOut (fun x => x = d) S g ⟨l0, ps ++ ls, sets, rs, [], frs0 rs sets (dp.take j) ++ [⟨2, [], t, 0, sets, false⟩]⟩ (.int .i64 0) wr) :=
    As5 (A1 := none) (c1 := 0) (l1 := []) (o' := []) ht.st HG.out hf (by rw [hf0]; exact Nat.zero_le _) (Nat.zero_le _) (by have := HFL.out; dsimp only; omega) 2 (LK.nil _ _ _) (ht.lent Af8 htl htC) (Nat.zero_le _) (by have := HTB.out; omega) (by have := HSL.out; dsimp only; omega) (pops_nil _ _ _ _)
   have Y := zA y
   have hlt2 : (j : Int) < (m : Int) := by omega
   clear htj y htl htC ht hf hf0 hf1 hlt
   go_wp2_with fail
   refine K2.mono ?_
   rintro e w4 ⟨rfl, S4, q4⟩
   have T4 := zA (T.out.prog q4)
   have BX4 := Aa3 BX.out T4.out.bel
   have y12 := bc_ BX4 12
   have yr : w4.cell? (ad.add j) = some (.slice Aj t.length cj) := T4.out.bel.kp Y.out
   have K3 := Cb9 T4.out.rs 2 (A2 := Aj) (c2 := cj) (l2 := t) ⟨by have := W1.out.bp; have := W1.out.bl; dsimp only; rw [List.length_append]; omega, by have := HSL.out; dsimp only; omega, by have := W1.out.br; dsimp only; omega, Nat.zero_le _, by have := HFL.out; dsimp only; omega⟩ (by dsimp only; rw [Ak1]; omega) (T4.out.lent Af8 TL.out.1 TL.out.2) (by have := HTB.out; omega) (Nat.zero_le _)
   clear q4 BX4 K2
   go_wp2_with fail
   refine K3.mono ?_
   rintro e w5 ⟨rfl, hr5, hc5⟩
   have T5 := zA (T4.out.ref hr5 hc5)
   clear hr5 hc5 K3
   go_wp2_with fail
   go_roundw
   case rel => exact ⟨j + 1, S4, by go_num, HLT.out, by rw [List.take_add_one, HTJ.out]; have h_ := T5.out; rw [show frs0 rs sets (dp.take j ++ (some t).toList) = frs0 rs sets (dp.take j) ++ [⟨2, [], t, 0, sets, false⟩] from Ck1 rs sets (dp.take j) t]; exact h_⟩
   case measure => have := HLT.out; simp [intOf]; omega
  ·obtain rfl : j = m := by omega
   clear hlt
   have hfull : dp.take j = dp := List.take_of_length_le (by rw [HM.out]; exact Nat.le_refl _)
   rw [hfull] at ht
   have T := zA ht
   obtain ⟨F0, hF0⟩ : ∃ F0, F0 = frs0 rs sets dp := ⟨_, rfl⟩
   obtain ⟨f, hf, hf0, hf1⟩ := Be7 rs sets dp
   rw [← hF0] at hf
   have HF := zA (And.intro hf (And.intro hf0 hf1))
   have HF0 := zA hF0
   have HFL : Aa2 (F0.length ≤ 1048577 ∧ 0 < F0.length) := ⟨by rw [hF0, Ak1]; have := W1.out.bd; omega⟩
   rw [← hF0] at T
   have K4 : Calls Tryz.prog 33 #[.pointer (some ⟨g, 0, none⟩), .slice AS st.length cS] wr (KOut (fun x => x = d) S g ⟨l0, ps ++ ls, sets, rs, st, F0⟩ (.int .i64 0) wr) :=
    Aj4 T.out.st (T.out.lent Af8 W1.out.hs W1.out.s) HFL.out.2 (by have := W1.out.bs; dsimp only [List.length_nil]; omega)
   clear ht hfull hf hf0 hf1 hF0
   go_wp2_with fail
   refine K4.mono ?_
   rintro e w4 ⟨rfl, S4, q4⟩
   have T4 := zA (T.out.prog q4)
   have BX4 := Aa3 BX.out T4.out.bel
   have y13 := bc_ BX4 13
   have K5 : Calls Tryz.prog 34 #[.pointer (some ⟨d, 0, none⟩), .slice AS st.length cS] w4 (RQ (fun x => S4 x ∨ x = d) d ⟨l0, ps ++ ls, sets, rs, st, F0⟩ (.int .i64 0) w4) :=
    Al4 T4.out.rs (T4.out.lent Af8 W1.out.hs W1.out.s) HFL.out.2 (by have := W1.out.bs; dsimp only [List.length_nil]; omega)
   clear q4 BX4 K4
   go_wp2_with fail
   refine K5.mono ?_
   rintro e w5 ⟨rfl, hr5, hc5⟩
   have T5 := zA (T4.out.ref hr5 hc5)
   have BX5 := Aa3 BX.out T5.out.bel
   have y14 := bc_ BX5 14
   clear hr5 hc5 K5 BX5
   cases dead with
   | false =>
    go_wp2_with fail
    go_ret2
    have h_ := T5.out.down BW.out
    rw [HF0.out, HSE.out] at h_
    exact ⟨g, d, S4, rfl, h_⟩
   | true =>
    have K6 : Calls Tryz.prog 13 #[.pointer (some ⟨g, 0, none⟩)] w5 (KOut (fun x => x = d) S4 g ⟨l0, ps ++ ls, sets, rs, [], F0.set (F0.length - 1) { f with dead := true }⟩ (.int .i64 0) w5) := by
     have h_ : Calls Tryz.prog 13 #[.pointer (some ⟨g, 0, none⟩)] w5 (KOut (fun x => x = d) S4 g ⟨l0, ps ++ ls, sets, rs, st.take f.height, F0.set (F0.length - 1) { f with dead := true }⟩ (.int .i64 0) w5) := An2 T5.out.st HF.out.1 (by rw [HF.out.2.1]; exact Nat.zero_le _) (by have := W1.out.bs; dsimp only; omega) (by have := HFL.out.1; dsimp only; omega)
     rw [show st.take f.height = [] by rw [HF.out.2.1]; rfl] at h_
     exact h_
    go_wp2_with fail
    refine K6.mono ?_
    rintro e w6 ⟨rfl, S6, q6⟩
    have T6 := zA (T5.out.prog q6)
    have K7 : Calls Tryz.prog 35 #[.pointer (some ⟨d, 0, none⟩)] w6 (RQ (fun x => S6 x ∨ x = d) d ⟨l0, ps ++ ls, sets, rs, [], F0.set (F0.length - 1) { f with dead := true }⟩ (.int .i64 0) w6) := by
     have h_ : Calls Tryz.prog 35 #[.pointer (some ⟨d, 0, none⟩)] w6 (RQ (fun x => S6 x ∨ x = d) d ⟨l0, ps ++ ls, sets, rs, st.take f.height, F0.set (F0.length - 1) { f with dead := true }⟩ (.int .i64 0) w6) := Av5 T6.out.rs HF.out.1 (by rw [HF.out.2.1]; exact Nat.zero_le _) (by have := W1.out.bs; dsimp only; omega) (by have := HFL.out.1; dsimp only; omega)
     rw [show st.take f.height = [] by rw [HF.out.2.1]; rfl] at h_
     exact h_
    clear q6 K6 y14
    go_wp2_with fail
    refine K7.mono ?_
    rintro e w7 ⟨rfl, hr7, hc7⟩
    have T7 := zA (T6.out.ref hr7 hc7)
    have BX7 := Aa3 BX.out T7.out.bel
    have y13 := bc_ BX7 13
    have K8 : Calls Tryz.prog 33 #[.pointer (some ⟨g, 0, none⟩), .slice AS st.length cS] w7 (KOut (fun x => x = d) S6 g ⟨l0, ps ++ ls, sets, rs, st, F0.set (F0.length - 1) { f with dead := true }⟩ (.int .i64 0) w7) :=
     Aj4 T7.out.st (T7.out.lent Af8 W1.out.hs W1.out.s) (by dsimp only; rw [List.length_set]; exact HFL.out.2) (by have := W1.out.bs; dsimp only [List.length_nil]; omega)
    clear hr7 hc7 K7 BX7
    go_wp2_with fail
    refine K8.mono ?_
    rintro e w8 ⟨rfl, S8, q8⟩
    have T8 := zA (T7.out.prog q8)
    have BX8 := Aa3 BX.out T8.out.bel
    have y13 := bc_ BX8 13
    have K9 : Calls Tryz.prog 34 #[.pointer (some ⟨d, 0, none⟩), .slice AS st.length cS] w8 (RQ (fun x => S8 x ∨ x = d) d ⟨l0, ps ++ ls, sets, rs, st, F0.set (F0.length - 1) { f with dead := true }⟩ (.int .i64 0) w8) :=
     Al4 T8.out.rs (T8.out.lent Af8 W1.out.hs W1.out.s) (by dsimp only; rw [List.length_set]; exact HFL.out.2) (by have := W1.out.bs; dsimp only [List.length_nil]; omega)
    clear q8 K8 BX8
    go_wp2_with fail
    refine K9.mono ?_
    rintro e w9 ⟨rfl, hr9, hc9⟩
    have T9 := zA (T8.out.ref hr9 hc9)
    clear hr9 hc9 K9
    go_wp2_with fail
    go_ret2
    have h_ := T9.out.down BW.out
    rw [← Ba7 HF.out.1, HF0.out, HSE.out] at h_
    exact ⟨g, d, S8, rfl, h_⟩
structure CX where
 A0 : Option Addr
 c0 : Nat
 l0 : List S132
 A1 : Option Addr
 c1 : Nat
 l1 : List Int
 A2 : Option Addr
 c2 : Nat
 l2 : List S214
 A3 : Option Addr
 c3 : Nat
 l3 : List S212
 A4 : Option Addr
 c4 : Nat
 l4 : List S292
 A5 : Option Addr
 c5 : Nat
 l5 : List Int
 A6 : Option Addr
 c6 : Nat
 l6 : List S39
 d7 : Int
 A8 : Option Addr
 c8 : Nat
 l8 : List Bool
structure IX where
 op : Int
 x : Nat
 y : Nat
 v3 : Value
 v4 : Value
 v5 : Value
 v6 : Value
 v7 : Value
 v8 : Value
 v9 : Value
 v10 : Value
 v11 : Value
 v12 : Value
 v13 : Value
 AL : Option Addr
 ls : List Int
 cL : Nat
 v15 : Value
 v16 : Value
structure XK (w1 : World) (X : CX) (I : IX) : Prop where
 xin : XIn w1 X.A0 X.c0 X.l0 X.A1 X.c1 X.l1 X.A2 X.c2 X.l2 X.A3 X.c3 X.l3 X.A4 X.c4 X.l4 X.A5 X.c5 X.l5 X.A6 X.c6 X.l6 X.d7 X.A8 X.c8 X.l8
 lab : Kd.C (Kd.int .u32) w1 I.AL I.ls.length I.ls
 hl : I.ls.length ≤ I.cL
 lb : I.ls.length ≤ 1048576
 l32 : ∀ n ∈ I.ls, 0 ≤ n ∧ n ≤ 4294967295
 f64 : ∀ n ∈ X.l1, NV64 n
 t64 : ∀ n ∈ X.l5, NV64 n
 x32 : I.x ≤ 4294967295
 y32 : I.y ≤ 4294967295
structure KI (w1 : World) (D S : Nat → Prop) (kb g : Nat) (X : CX) (I : IX) (W : World) : Prop where
 box : W.heap[kb]? = some (.cells #[.slice X.A0 X.l0.length X.c0, .slice X.A1 X.l1.length X.c1, .slice X.A2 X.l2.length X.c2, .slice X.A3 X.l3.length X.c3, .slice X.A4 X.l4.length X.c4, .slice X.A5 X.l5.length X.c5, .slice X.A6 X.l6.length X.c6, .int .i64 X.d7, .slice X.A8 X.l8.length X.c8, .pointer (some ⟨g, 0, none⟩), .int .i64 I.op, .int .u32 I.x, .int .u32 I.y, I.v3, I.v4, I.v5, I.v6, I.v7, I.v8, I.v9, I.v10, I.v11, I.v12, I.v13, .slice I.AL I.ls.length I.cL, I.v15, I.v16] 87 (0, 0))
 bel : Below w1.heap.size w1 W
 nw : ∀ x, S x ∨ D x → w1.heap.size ≤ x
 nS : ¬ S kb
structure Fit (k : Chk) (f : Fr) : Prop where
 g : GOk k.l
 lf : k.frames[k.frames.length - 1]? = some f
 h : f.height ≤ k.ops.length
 ops : k.ops.length ≤ 8388608
 frs : k.frames.length ≤ 8388608
 ios : ∀ x ∈ k.frames, x.ins.length ≤ 1048576 ∧ x.outs.length ≤ 1048576
 res : k.results.length ≤ 1048576
section
variable {w1 w w' : World} {D S S' : Nat → Prop} {kb g : Nat} {X : CX} {I : IX} {k k' : Chk} {f : Fr}
theorem KI.below (h : KI w1 D S kb g X I w) (hb : Below w.heap.size w w') : KI w1 D S kb g X I w' :=
 ⟨Aa3 h.box hb, h.bel.trans (hb.mono h.bel.size), h.nw, h.nS⟩
theorem KI.lent {α : Type} {K : Kd α} {A : Option Addr} {c : Nat} {xs : List α} (h : KI w1 D S kb g X I w) (hd : Kd.Heap K) (hl : xs.length ≤ c) (hC : K.C w1 A xs.length xs) : LK K (fun x => S x ∨ D x) w (.slice A xs.length c) xs :=
 LK.lent hd hl hC h.bel h.nw
theorem KI.pc (h : KI w1 D S kb g X I w) : w.cell? ⟨kb, 9, none⟩ = some (.pointer (some ⟨g, 0, none⟩)) := (Aa0 h.box 9).trans rfl
theorem Fit.pos (h : Fit k f) : 0 < k.frames.length := by
 have := (List.getElem?_eq_some_iff.1 h.lf).1
 omega
def unrM (k : Chk) (f : Fr) : Chk := { k with ops := k.ops.take f.height, frames := k.frames.set (k.frames.length - 1) { f with dead := true } }
set_option maxHeartbeats 2000000 in
theorem Bh8 (b : Bool) (n : Int) (w : World) : Calls Tryz.prog 77 #[.bool b, .int .i64 n] w fun e w' => e = .returned (.agg #[.int .i64 5, .bool b, .int .i64 n]) ∧ Below w.heap.size w w' := by
 go_enter Tryz.func77, Tryz.ntmps77
 go_wp2_with fail
 refine bodyPost_ret (results_cell_row rfl _ _ w.heap.size 39 #[.int .i64 5, .bool b, .int .i64 n] (0, 0) _ rfl (Aa6 w _) Tryz.underlying39 rfl (by kernel_rfl)) rfl ?_
 exact ⟨rfl, bz_⟩
end
end Go.Proofs.YtohlmkcgempdlaaGreatDoor.Cn
namespace Go.Proofs.YtohlmkcgempdlaaGreatDoor.QD
open Go.RowKit Go.Proofs.YtohlmkcgempdlaaGreatDoorW.PrintWords Go.Proofs.YtohlmkcgempdlaaGreatDoorW.PrintLast Go.Proofs.YtohlmkcgempdlaaGreatDoorW.PrintMore
attribute [local go_sem] An1 Am9 Ar1 Ar0 Ak8 Ak7 An0 Am8 
set_option linter.unusedVariables false
set_option linter.unusedSimpArgs false
set_option maxRecDepth 100000
def vctl_there.f (a0 : Int) (a1 : Int) : Option (Bool) := some (decide ((wrap64 (a0)) < a1))
set_option maxHeartbeats 8000000 in
theorem vctl_there.calls (a0 : Int) (a1 : Int) (r : Bool) (w : World) (h : vctl_there.f a0 a1 = some r) :
  Calls Tryz.prog 117 #[.int .u32 a0, .int .i64 a1] w fun e w' => e = .returned (.bool r) ∧ Ab6 w w' := by
 have H : (some (decide ((wrap64 (a0)) < a1))) = some r := h
 clear h
 obtain rfl := Option.some.inj H
 go_enter Tryz.func117, Tryz.ntmps117
 go_wp2
 go_ret
 exact ⟨by first | rfl | (simp; done) | (simp [*]; done), by repeat (first | exact Ab6.refl _ | apply Ab6.step)⟩
end Go.Proofs.YtohlmkcgempdlaaGreatDoor.QD
namespace Go.Proofs.YtohlmkcgempdlaaGreatDoor.Cn
set_option linter.unusedSimpArgs false
set_option maxRecDepth 100000
set_option linter.unusedVariables false
open Go.RowKit Go.Maps Go.Proofs.YtohlmkcgempdlaaGreatDoorW.PrintWords Go.Proofs.YtohlmkcgempdlaaGreatDoorW.PrintLast Go.Proofs.YtohlmkcgempdlaaGreatDoorW.PrintMore Go.Proofs.YtohlmkcgempdlaaGreatDoor.QD
theorem int_at {k : IntKind} {w : World} {A : Option Addr} {n : Nat} {l : List Int} (h : Kd.C (Kd.int k) w A n l) {j : Nat} {x : Int} (hj : l[j]? = some x) : ∃ ad, A = some ad ∧ w.cell? (ad.add j) = some (.int k x) := by
 have hl := (List.getElem?_eq_some_iff.1 hj).1
 have := h.1
 obtain ⟨ad, e, hc⟩ := Kd.Au2 h (j : Int) (by omega) (by omega)
 refine ⟨ad, e, ?_⟩
 rw [Int.toNat_natCast] at hc
 rw [hc]
 simp [rd, rdOf, List.getD_eq_getElem?_getD, hj]
theorem Bs7 (n m : Nat) (hn : n ≤ 4294967295) (w : World) : Calls Tryz.prog 117 #[.int .u32 n, .int .i64 m] w fun e w' => e = .returned (.bool (decide (n < m))) ∧ Below w.heap.size w w' := by
 refine (vctl_there.calls n m (decide (n < m)) w ?_).mono (fun e w' ⟨e1, h⟩ => ⟨e1, by obtain ⟨j, rfl⟩ := h; exact below_drewN (Below.refl _ _) j⟩)
 unfold vctl_there.f
 have : wrap64 (n : Int) = (n : Int) := by unfold wrap64; omega
 rw [this]
 simp
section
variable {w1 w w' : World} {D S S' : Nat → Prop} {kb g : Nat} {X : CX} {I : IX} {k k' : Chk} {f : Fr}
theorem Fit.lab (h : Fit k f) (hs : St D S g k w) (n : Nat) (hn : n ≤ 4294967295) : Calls Tryz.prog 78 #[.pointer (some ⟨g, 0, none⟩), .int .u32 n] w (Cm8 (fun x => S x ∨ D x) (labM k.frames n) w) :=
 Bq4 hs n hn (by have := h.frs; omega) (fun x hx => by have := h.ios x hx; omega)
def tagM (X : CX) (n : Nat) : Int × List S39 := if n < X.l5.length then ((ftV X.l0 (X.l5.getD n 0)).2.2, (ftV X.l0 (X.l5.getD n 0)).1) else (150, [])
theorem VQ.lk {b : Nat} {w : World} {v : Value} {xs : List S39} (h : VQ b w v xs) {S : Nat → Prop} (hS : ∀ x, S x → x < b) : LK k39 S w v xs := by
 obtain ⟨A, c, h1, h2, h3, h4⟩ := h
 exact h4 S hS
set_option maxHeartbeats 4000000 in
theorem Bh7 (h : St D S g k w) (hk : KI w1 D S kb g X I w) (hx : XK w1 X I) (n : Nat) (hn : n ≤ 4294967295) : Calls Tryz.prog 75 #[.pointer (some ⟨kb, 0, none⟩), .int .u32 n] w (Cm8 (fun x => S x ∨ D x) (tagM X n) w) := by
 have K1 := Bs7 n X.l5.length hn w
 have z5 : w.cell? ⟨kb, 5, none⟩ = some (.slice X.A5 X.l5.length X.c5) := (Aa0 hk.box 5).trans rfl
 have H := zA h
 have HK := zA hk
 have HX := zA hx
 by_cases hlt : n < X.l5.length
 ·have e1 : decide (n < X.l5.length) = true := decide_eq_true hlt
  rw [e1] at K1
  obtain ⟨u, hu⟩ : ∃ u, X.l5[n]? = some u := ⟨_, List.getElem?_eq_getElem hlt⟩
  have ET : tagM X n = ((ftV X.l0 u).2.2, (ftV X.l0 u).1) := by
   unfold tagM
   rw [if_pos hlt, List.getD_eq_getElem?_getD, hu]
   rfl
  rw [ET]
  obtain ⟨ad, eA, hc⟩ := int_at hx.xin.r5 hu
  have HU := zA (And.intro (hx.t64 u (List.mem_of_getElem? hu)) hc)
  have EA := zA eA
  have hjn : (n : Int) < (X.l5.length : Int) := by omega
  have hj0 : (0 : Int) ≤ (n : Int) := Int.natCast_nonneg n
  clear h hk hx hn e1 hu ET hc hlt eA
  go_enter Tryz.func75, Tryz.ntmps75
  go_wp2_with fail
  refine K1.mono ?_
  rintro e w2 ⟨rfl, hb⟩
  have B2 := zA hb
  clear K1 z5 hb
  go_wp2_with fail
  obtain ⟨w3, hw3⟩ : ∃ w3, World.drew w2 = w3 := ⟨_, rfl⟩
  have b3 : Below w2.heap.size w2 w3 := by rw [← hw3]; exact (Below.refl _ _).drew
  have B3 := zA (B2.out.trans (b3.mono B2.out.size))
  have hk3 := HK.out.below B3.out
  have BX := hk3.bel
  have KF := Ap1 X.A0 X.c0 X.l0 X.A1 X.c1 X.l1 X.A2 X.c2 X.l2 X.A3 X.c3 X.l3 X.A4 X.c4 X.l4 X.A5 X.c5 X.l5 X.A6 X.c6 X.l6 X.d7 X.A8 X.c8 X.l8 u w3 (HX.out.xin.below hk3.bel) HU.out.1
  have y10 : w3.cell? (ad.add n) = some (.int .i64 u) := hk3.bel.kp HU.out.2
  have y0 : w3.cell? ⟨kb, 0, none⟩ = some (.slice X.A0 X.l0.length X.c0) := (Aa0 hk3.box 0).trans rfl
  have y1 : w3.cell? ⟨kb, 1, none⟩ = some (.slice X.A1 X.l1.length X.c1) := (Aa0 hk3.box 1).trans rfl
  have y2 : w3.cell? ⟨kb, 2, none⟩ = some (.slice X.A2 X.l2.length X.c2) := (Aa0 hk3.box 2).trans rfl
  have y3 : w3.cell? ⟨kb, 3, none⟩ = some (.slice X.A3 X.l3.length X.c3) := (Aa0 hk3.box 3).trans rfl
  have y4 : w3.cell? ⟨kb, 4, none⟩ = some (.slice X.A4 X.l4.length X.c4) := (Aa0 hk3.box 4).trans rfl
  have y5 : w3.cell? ⟨kb, 5, none⟩ = some (.slice X.A5 X.l5.length X.c5) := (Aa0 hk3.box 5).trans rfl
  have y6 : w3.cell? ⟨kb, 6, none⟩ = some (.slice X.A6 X.l6.length X.c6) := (Aa0 hk3.box 6).trans rfl
  have y7 : w3.cell? ⟨kb, 7, none⟩ = some (.int .i64 X.d7) := (Aa0 hk3.box 7).trans rfl
  have y8 : w3.cell? ⟨kb, 8, none⟩ = some (.slice X.A8 X.l8.length X.c8) := (Aa0 hk3.box 8).trans rfl
  clear b3 hk3 BX
  rw [EA.out] at y5 KF
  refine Ab3 (n := 20) (S := fun w' => w'.cell? ⟨kb, 0, none⟩ = some (.slice X.A0 X.l0.length X.c0) ∧ w'.cell? ⟨kb, 1, none⟩ = some (.slice X.A1 X.l1.length X.c1) ∧ w'.cell? ⟨kb, 2, none⟩ = some (.slice X.A2 X.l2.length X.c2) ∧ w'.cell? ⟨kb, 3, none⟩ = some (.slice X.A3 X.l3.length X.c3) ∧ w'.cell? ⟨kb, 4, none⟩ = some (.slice X.A4 X.l4.length X.c4) ∧ w'.cell? ⟨kb, 5, none⟩ = some (.slice (some ad) X.l5.length X.c5) ∧ w'.cell? ⟨kb, 6, none⟩ = some (.slice X.A6 X.l6.length X.c6) ∧ w'.cell? ⟨kb, 7, none⟩ = some (.int .i64 X.d7) ∧ w'.cell? ⟨kb, 8, none⟩ = some (.slice X.A8 X.l8.length X.c8) ∧ w'.cell? (ad.add n) = some (.int .i64 u)) (ds := []) (bm_ 20 0) (by kernel_rfl) rfl rfl ⟨(by rw [hw3]; exact y0), (by rw [hw3]; exact y1), (by rw [hw3]; exact y2), (by rw [hw3]; exact y3), (by rw [hw3]; exact y4), (by rw [hw3]; exact y5), (by rw [hw3]; exact y6), (by rw [hw3]; exact y7), (by rw [hw3]; exact y8), (by rw [hw3]; exact y10)⟩ (fun hHeld => ?_)
  rw [hw3] at hHeld ⊢
  clear hw3 y0 y1 y2 y3 y4 y5 y6 y7 y8 y10
  refine pz_ 0 19 20 1 ?_
  refine pz_ 1 20 20 3 ?_
  refine pz_ 2 21 20 7 ?_
  refine pz_ 4 23 20 23 ?_
  refine pz_ 5 24 20 55 ?_
  refine pz_ 6 25 20 119 ?_
  refine pz_ 7 26 20 247 ?_
  refine pz_ 9 28 20 759 ?_
  refine tz_ 3 22 20 767 hHeld ?_
  refine tz_ 8 27 20 1023 hHeld ?_
  refine pz_ 10 29 20 2047 ?_
  refine tz_ 11 30 20 4095 hHeld ?_
  refine oz_ 12 31 20 8191 fun K hK => ?_
  refine gz_ Tryz.func23 #[.agg #[.slice X.A0 X.l0.length X.c0, .slice X.A1 X.l1.length X.c1, .slice X.A2 X.l2.length X.c2, .slice X.A3 X.l3.length X.c3, .slice X.A4 X.l4.length X.c4, .slice (some ad) X.l5.length X.c5, .slice X.A6 X.l6.length X.c6, .int .i64 X.d7, .slice X.A8 X.l8.length X.c8], .int .i64 u] ?_
  with_reducible refine (KF).mono ?_
  rintro e w4 ⟨v1, v2, rfl, h1, h2, hb⟩
  have V4 := zA h1
  have HB := zA hb
  clear h1 h2 hb
  refine ⟨_, rfl, ?_⟩
  refine hK.out _ _ ⟨HB.out.kp hHeld.1, HB.out.kp hHeld.2.1, HB.out.kp hHeld.2.2.1, HB.out.kp hHeld.2.2.2.1, HB.out.kp hHeld.2.2.2.2.1, HB.out.kp hHeld.2.2.2.2.2.1, HB.out.kp hHeld.2.2.2.2.2.2.1, HB.out.kp hHeld.2.2.2.2.2.2.2.1, HB.out.kp hHeld.2.2.2.2.2.2.2.2.1, HB.out.kp hHeld.2.2.2.2.2.2.2.2.2⟩ (fun hHeld => ?_)
  clear hK K
  refine nz_ ?_
  refine pz_ 13 18 20 16383 ?_
  refine pz_ 14 32 20 32767 ?_
  refine pz_ 15 33 20 65535 ?_
  refine pz_ 16 34 20 131071 ?_
  refine pz_ 17 6 20 262143 ?_
  refine pz_ 18 7 20 524287 ?_
  refine pz_ 19 8 20 1048575 ?_
  refine dz_ ?_

  go_wp2_with fail
  go_ret2
  exact ⟨v1, rfl, V4.out.lk (fun x e => Nat.lt_of_lt_of_le (H.out.lt x e) B3.out.size), B3.out.trans (HB.out.mono B3.out.size)⟩
 ·have e1 : decide (n < X.l5.length) = false := decide_eq_false hlt
  rw [e1] at K1
  have ET : tagM X n = (150, []) := by unfold tagM; rw [if_neg hlt]
  rw [ET]
  clear h hk hx hn e1 ET hlt
  go_enter Tryz.func75, Tryz.ntmps75
  go_wp2_with fail
  refine K1.mono ?_
  rintro e w2 ⟨rfl, hb⟩
  have B2 := zA hb
  clear K1 z5 hb
  go_wp2_with fail
  go_ret2
  exact ⟨_, rfl, LK.nil _ _ _, B2.out⟩
end
end Go.Proofs.YtohlmkcgempdlaaGreatDoor.Cn
