/- Parts of the proof of vctlOpens_holds (20 of 22): what it says and shows stands at its declarations. -/
import Derived.Test.YtohlmkcgempdlaaGreatDoorZO19
import Derived.Lib.SliceRun
namespace Go.Proofs.YtohlmkcgempdlaaGreatDoor.Cn
set_option linter.unusedSimpArgs false
set_option maxRecDepth 100000
set_option linter.unusedVariables false
open Go.RowKit Go.Maps Go.Proofs.YtohlmkcgempdlaaGreatDoorW.PrintWords Go.Proofs.YtohlmkcgempdlaaGreatDoorW.PrintLast Go.Proofs.YtohlmkcgempdlaaGreatDoorW.PrintMore Go.Proofs.YtohlmkcgempdlaaGreatDoor.QD
set_option maxHeartbeats 4000000 in
theorem Bf5 (S : Nat → Prop) {v : Value} (l : List S39) (w : World) (h : LK k39 S w v l) (hl : l.length ≤ 4294967296) : Calls Tryz.prog 76 #[v] w (ROut k39 39 l w) := by
 obtain ⟨A, c, rfl⟩ := h.slice
 cases A with
 | none =>
  obtain ⟨a1, a2, a3⟩ := h.reads.2.2
  have e : l = [] := by
   cases l with
   | nil => rfl
   | cons x l =>
    obtain ⟨ad, e1, _⟩ := a3 (by simp)
    cases e1
  subst e
  clear h hl a1 a2 a3
  have qT : ∀ (w : World) (a : Option Addr) (n c n' c' : Nat), (binOp .eql 27 (.slice a n c) (.slice none n' c')).run Tryz.prog w = .ok (.bool a.isNone) w := fun w a n c n' c' => Lib.run_eql_slice_nil w _ _ a n c n' c' Tryz.underlying27
  go_enter Tryz.func76, Tryz.ntmps76
  go_wp2_with fail
  go_ret
  exact ⟨_, rfl, Kd.Aj9 _ _ _ _ _, Below.refl _ _⟩
 | some ad =>
  have ba : Below w.heap.size w (w.alloc (.cells #[] 39)) := bz_
  have L1 := zA (h.below ba)
  have BA := zA ba
  have HL := zA hl
  have R1 : Aa2 (Kd.R k39 39 (w.alloc (.cells #[] 39)) w.heap.size (fun _ => True) (.slice (some ⟨w.heap.size, 0, none⟩) 0 0) []) := ⟨⟨fun _ _ => trivial, Aj8.lit (ps := ([] : List S39)) w w.heap.size (inner := []) (Reps.none _ _) (Nat.le_refl _) (by simp)⟩⟩
  obtain ⟨n, hn⟩ : ∃ n, n = l.length := ⟨_, rfl⟩
  rw [← hn] at L1 ⊢
  have HN := zA hn
  clear h hl ba hn
  have qT : ∀ (w : World) (a : Option Addr) (n c n' c' : Nat), (binOp .eql 27 (.slice a n c) (.slice none n' c')).run Tryz.prog w = .ok (.bool a.isNone) w := fun w a n c n' c' => Lib.run_eql_slice_nil w _ _ a n c n' c' Tryz.underlying27
  go_enter Tryz.func76, Tryz.ntmps76
  go_wp2_with (at_builtin; refine Kd.Ah2 k39 (Rr := k39.K (w.alloc (.cells #[] 39))) (w0 := w) w.heap.size rfl (.tmp 5) (.tmp 6) 27 39 (.agg #[.int .i64 0, .bool false, .int .i64 0]) 24 rfl Tryz.underlying27 Am5 rfl (by decide) (by decide) (.slice (some ⟨w.heap.size, 0, none⟩) 0 0) [] l (some ad) n c (fun _ => True) (fun _ => False) rfl rfl R1.out (by have h_ := L1.out.reads.2.2; rw [HN.out]; exact h_) (fun x cs hk => by rw [An3 hk]; exact Ai2 _ _ _ x) (fun _ hk => hk.elim) (fun _ _ => trivial) BA.out BA.out.size (by have := HN.out; have := HL.out; simp; omega) ?_; intro v4 w4 hr4 hb4 hg4 hat4; have R4 := zA hr4; have B4 := zA hb4; clear hr4 hb4 hg4 hat4)
  go_ret
  exact ⟨_, rfl, R4.out, B4.out⟩
section
variable {w1 w w' : World} {D S S' : Nat → Prop} {kb g : Nat} {X : CX} {I : IX} {k k' : Chk} {f : Fr}
theorem Ao9 (h : St D S g k w) (hF : Fit k f) : Calls Tryz.prog 36 #[.pointer (some ⟨g, 0, none⟩)] w (KOut D S g k (.bool false) w) := by
 have K : Calls Tryz.prog 33 #[.pointer (some ⟨g, 0, none⟩), .slice none 0 0] w (KOut D S g { k with ops := k.ops ++ [] } (.int .i64 0) w) :=
  Aj4 h (A := none) (c := 0) (l := []) (LK.nil _ _ _) hF.pos (by have := hF.ops; simp; omega)
 rw [List.append_nil] at K
 clear h hF
 go_enter Tryz.func36, Tryz.ntmps36
 go_wp2_with fail
 refine K.mono ?_
 rintro e w2 ⟨rfl, hq⟩
 clear K
 go_wp2_with fail
 go_ret
 exact ⟨rfl, hq⟩
end
variable {k : Chk} {f : Fr}
theorem set_last {α : Type} (xs : List α) (x : α) (h : 0 < xs.length) : (xs.set (xs.length - 1) x)[(xs.set (xs.length - 1) x).length - 1]? = some x := by
 rw [List.length_set, List.getElem?_set_self (by omega)]
end Go.Proofs.YtohlmkcgempdlaaGreatDoor.Cn
namespace Go.Proofs.YtohlmkcgempdlaaGreatDoor.Cn
set_option linter.unusedSimpArgs false
set_option maxRecDepth 100000
set_option linter.unusedVariables false
open Go.RowKit Go.Maps Go.Proofs.YtohlmkcgempdlaaGreatDoorW.PrintWords Go.Proofs.YtohlmkcgempdlaaGreatDoorW.PrintLast Go.Proofs.YtohlmkcgempdlaaGreatDoorW.PrintMore Go.Proofs.YtohlmkcgempdlaaGreatDoor.QD
theorem Ay3 {fn : Func} {t u v y : Tmp} (h : fn.results = #[.tmp t, .tmp u, .tmp v, .tmp y]) (tmps : Array Value) (P : Program) (w : World) :
  (results fn tmps).run P w = .ok (.tuple #[tmps.getD t undef, tmps.getD u undef, tmps.getD v undef, tmps.getD y undef]) w := by
 simp [results, h]
section
variable {D S : Nat → Prop} {g : Nat} {k : Chk} {w : World} {f : Fr}
def FrOut (S : Nat → Prop) (f : Fr) (w : World) (e : Ending) (w' : World) : Prop := ∃ v1 v2, e = .returned (.tuple #[.int .i64 f.op, v1, v2, .int .i64 0]) ∧ LK k39 S w' v1 f.ins ∧ LK k39 S w' v2 f.outs ∧ Below w.heap.size w w'
set_option maxHeartbeats 4000000 in
theorem Bv9 (h : St D S g k w) (hf : k.frames[k.frames.length - 1]? = some f) (hn : k.frames.length ≤ 4294967296) (hl1 : f.ins.length ≤ 1099511627776) (hl2 : f.outs.length ≤ 1099511627776) :
  Calls Tryz.prog 45 #[.pointer (some ⟨g, 0, none⟩)] w (FrOut (fun x => S x ∨ D x) f w) := by
 obtain ⟨v1, v2, v3, v4, ao, co, b, cf, m, A1, c1, A2, c2, A4, c4, h, hfm, ha, hb, hne⟩ := h.top hf
 have H1 := zA h
 have c6 := H1.out.c6
 rw [hfm] at c6
 have K0 := Ag9 g (some ⟨b, 0, none⟩) (m + 1) cf _ H1.out.c0 c6 (by omega)
 have K1 := Ao1 c6 (by omega)
 have HA := zA ha
 have L1 := zA ha.lk1
 have L2 := zA ha.lk2
 have HL := zA (And.intro hl1 hl2)
 have LT := zA h.lt
 clear h hf hn hfm ha hb hne c6 hl1 hl2
 go_enter Tryz.func45, Tryz.ntmps45
 go_wp2_with fail
 refine K0.mono ?_
 rintro e w1 ⟨rfl, e1⟩
 subst e1
 clear K0
 go_wp2_with fail
 refine K1.mono ?_
 rintro e w2 ⟨rfl, hb2⟩
 have B2 := zA hb2
 clear hb2 K1
 go_wp2_with fail
 obtain ⟨w3, hw3⟩ : ∃ w3, World.drew w2 = w3 := ⟨_, rfl⟩
 have b3 : Below w2.heap.size w2 w3 := by rw [← hw3]; exact (Below.refl _ _).drew
 have B3 := zA (B2.out.trans (b3.mono B2.out.size))
 have y0 := B3.out.kp HA.out.op
 have y1 := B3.out.kp HA.out.ins
 have y2 := B3.out.kp HA.out.outs
 have KC := Ag1 (S' := fun x => S x ∨ D x) (L1.out.below B3.out) HL.out.1 (fun x e => Nat.lt_of_lt_of_le (LT.out x e) B3.out.size)
 clear b3
 refine Ab3 (n := 18) (S := fun w' => w'.cell? ⟨b, m * 6, none⟩ = some (.int .i64 f.op) ∧ w'.cell? ⟨b, m * 6 + 1, none⟩ = some (.slice A1 f.ins.length c1) ∧ w'.cell? ⟨b, m * 6 + 2, none⟩ = some (.slice A2 f.outs.length c2)) (ds := []) (bm_ 18 0) (by kernel_rfl) rfl rfl ⟨(by rw [hw3]; exact y0), (by rw [hw3]; exact y1), (by rw [hw3]; exact y2)⟩ (fun hHeld => ?_)
 rw [hw3] at hHeld ⊢
 clear hw3 y0 y1 y2
 refine pz_ 0 17 18 1 ?_
 refine pz_ 1 18 18 3 ?_
 refine pz_ 2 19 18 7 ?_
 refine pz_ 4 21 18 23 ?_
 refine pz_ 5 22 18 55 ?_
 refine pz_ 6 23 18 119 ?_
 refine pz_ 9 26 18 631 ?_
 refine pz_ 10 27 18 1655 ?_
 refine pz_ 11 28 18 3703 ?_
 refine tz_ 3 20 18 3711 hHeld ?_
 refine tz_ 7 24 18 3839 hHeld ?_
 refine tz_ 12 29 18 7935 hHeld ?_
 refine oz_ 8 25 18 8191 fun K hK => ?_
 refine gz_ Tryz.func50 #[.slice A1 f.ins.length c1] ?_
 with_reducible refine (KC).mono ?_
 rintro e w4 ⟨v8, rfl, hv8, hb4⟩
 have V8 := zA hv8
 have B34 := zA hb4
 have B4 := zA (B3.out.trans (hb4.mono B3.out.size))
 clear hv8 hb4 KC
 refine ⟨_, rfl, ?_⟩
 refine hK.out _ _ ⟨B34.out.kp hHeld.1, B34.out.kp hHeld.2.1, B34.out.kp hHeld.2.2⟩ (fun hHeld => ?_)
 clear hK K
 refine nz_ ?_
 refine oz_ 13 30 18 16383 fun K hK => ?_
 have KD := Ag1 (S' := fun x => S x ∨ D x) (L2.out.below B4.out) HL.out.2 (fun x e => Nat.lt_of_lt_of_le (LT.out x e) B4.out.size)
 refine gz_ Tryz.func50 #[.slice A2 f.outs.length c2] ?_
 with_reducible refine (KD).mono ?_
 rintro e w5 ⟨v9, rfl, hv9, hb5⟩
 have V9 := zA hv9
 have BX := zA hb5
 have V85 := zA (V8.out.below hb5)
 have B5 := zA (B4.out.trans (hb5.mono B4.out.size))
 clear hv9 hb5 KD
 refine ⟨_, rfl, ?_⟩
 refine hK.out _ _ ⟨BX.out.kp hHeld.1, BX.out.kp hHeld.2.1, BX.out.kp hHeld.2.2⟩ (fun hHeld => ?_)
 clear hK K
 refine nz_ ?_
 refine pz_ 14 2 18 32767 ?_
 refine pz_ 15 3 18 65535 ?_
 refine pz_ 16 4 18 131071 ?_
 refine pz_ 17 5 18 262143 ?_
 refine dz_ ?_
 go_wp2_with fail
 refine bodyPost_ret (Ay3 rfl _ _ _) rfl ?_
 exact ⟨v8, v9, rfl, V85.out, V9.out, B5.out⟩
def Ao0 (k : Chk) (f : Fr) (o' : List S39) : Chk := { k with ops := o', frames := k.frames.take (k.frames.length - 1), sets := f.sets }
def LvOut (D S : Nat → Prop) (g : Nat) (k' : Chk) (f : Fr) (w : World) (e : Ending) (w' : World) : Prop := ∃ v1 v2 S', e = .returned (.tuple #[.int .i64 f.op, v1, v2, .int .i64 0]) ∧ LK k39 (fun x => S' x ∨ D x) w' v1 f.ins ∧ LK k39 (fun x => S' x ∨ D x) w' v2 f.outs ∧ Kst D S g w k' S' w'
set_option maxHeartbeats 8000000 in
theorem Ci5 (h : St D S g k w) (hg : GOk k.l) (hf : k.frames[k.frames.length - 1]? = some f) (hh : f.height ≤ k.ops.length) (hm : k.ops.length ≤ 2147483648) (hn : k.frames.length ≤ 2147483648) (hl1 : f.ins.length ≤ 2147483648) (hl2 : f.outs.length ≤ 2147483648) (hl4 : f.sets.length ≤ 2147483648) {o' : List S39} (hp : Al5 k.l f.height f.dead f.outs k.ops = (0, o')) (ho : o'.length = f.height) :
  Calls Tryz.prog 47 #[.pointer (some ⟨g, 0, none⟩)] w (LvOut D S g (Ao0 k f o') f w) := by
 have HST := zA h
 obtain ⟨v1, v2, v3, v4, ao, co, b, cf, m, A1, c1, A2, c2, A4, c4, h, hfm, ha, hb, hne⟩ := h.top hf
 have H1 := zA h
 have c6 := H1.out.c6
 have c5 := H1.out.c5
 rw [hfm] at c6
 have K0 := Ag9 g (some ⟨b, 0, none⟩) (m + 1) cf _ H1.out.c0 c6 (by omega)
 have K1 := Ao1 c6 (by omega)
 have HA := zA ha
 have C5 := zA c5
 have L1 := zA ha.lk1
 have L2 := zA ha.lk2
 have L4 := zA ha.lk4
 have HL := zA (And.intro hl1 (And.intro hl2 hl4))
 have LT := zA h.lt
 have HFM := zA hfm
 have HO := zA ho
 have HF := zA (And.intro hg (And.intro hf (And.intro hh (And.intro hm hn))))
 have HP := zA hp
 clear h hf hn hfm ha hb hne c6 c5 hl1 hl2 hl4 hg hh hm hp ho
 go_enter Tryz.func47, Tryz.ntmps47
 go_wp2_with fail
 refine wp_scope_jumps 0 (fun _ _ => False) (fun _ _ => 0) rfl ?_ (fun _ _ e => e.elim)
 go_wp2_with fail
 refine K0.mono ?_
 rintro e w1 ⟨rfl, e1⟩
 subst e1
 clear K0
 go_wp2_with fail
 refine K1.mono ?_
 rintro e w2 ⟨rfl, hb2⟩
 have B2 := zA hb2
 obtain ⟨w3, hw3⟩ : ∃ w3, w3 = w2.alloc (.cells #[.int .i64 f.op, .slice A1 f.ins.length c1, .slice A2 f.outs.length c2, .int .i64 f.height, .slice A4 f.sets.length c4, .bool f.dead] 105) := ⟨_, rfl⟩
 have b3 : Below w2.heap.size w2 w3 := by rw [hw3]; exact bz_
 have q3 : w3.heap[w2.heap.size]? = some (.cells #[.int .i64 f.op, .slice A1 f.ins.length c1, .slice A2 f.outs.length c2, .int .i64 f.height, .slice A4 f.sets.length c4, .bool f.dead] 105 (0, 0)) := by rw [hw3]; exact Aa6 w2 _
 have d3 : Below w1.heap.size w1 w3 := hb2.trans (b3.mono hb2.size)
 obtain ⟨w4, hw4⟩ : ∃ w4, w4 = w3.alloc (.cells #[.slice ao k.ops.length co] 97) := ⟨_, rfl⟩
 have b4 : Below w3.heap.size w3 w4 := by rw [hw4]; exact bz_
 have B4 := zA (d3.trans (b4.mono d3.size))
 have q4 := Aa3 q3 b4
 have Q4 := zA q4
 have SZ : Aa2 (w1.heap.size ≤ w2.heap.size ∧ w2.heap.size < w4.heap.size) := ⟨hb2.size, Ac0 q4⟩
 have z5 : (w2.alloc (.cells #[.int .i64 f.op, .slice A1 f.ins.length c1, .slice A2 f.outs.length c2, .int .i64 f.height, .slice A4 f.sets.length c4, .bool f.dead] 105)).cell? ⟨g, 5, none⟩ = some (.slice ao k.ops.length co) := by rw [← hw3]; exact d3.kp C5.out
 have zo : ((w2.alloc (.cells #[.int .i64 f.op, .slice A1 f.ins.length c1, .slice A2 f.outs.length c2, .int .i64 f.height, .slice A4 f.sets.length c4, .bool f.dead] 105)).alloc (.cells #[.slice ao k.ops.length co] 97)).cell? ⟨w2.heap.size, 2, none⟩ = some (.slice A2 f.outs.length c2) := by rw [← hw3, ← hw4]; exact (Aa0 q4 2).trans rfl
 have KP := Au4 (HST.out.below B4.out) HF.out.1 HF.out.2.1 HF.out.2.2.1 (by have := HF.out.2.2.2.1; omega) (by have := HF.out.2.2.2.2; omega) (L2.out.below B4.out) (by have := HL.out.2.1; omega) HP.out
 have y0 : w2.cell? ⟨b, m * 6, none⟩ = some (.int .i64 f.op) := B2.out.kp HA.out.op
 have y1 : w2.cell? ⟨b, m * 6 + 1, none⟩ = some (.slice A1 f.ins.length c1) := B2.out.kp HA.out.ins
 have y2 : w2.cell? ⟨b, m * 6 + 2, none⟩ = some (.slice A2 f.outs.length c2) := B2.out.kp HA.out.outs
 have y3 : w2.cell? ⟨b, m * 6 + 3, none⟩ = some (.int .i64 f.height) := B2.out.kp HA.out.height
 have y4 : w2.cell? ⟨b, m * 6 + 4, none⟩ = some (.slice A4 f.sets.length c4) := B2.out.kp HA.out.sets
 have y5 : w2.cell? ⟨b, m * 6 + 5, none⟩ = some (.bool f.dead) := B2.out.kp HA.out.dead
 clear hb2 K1 b3 q3 d3 b4 q4
 go_wp2_with fail
 rw [← hw3, ← hw4]
 clear hw3 hw4 z5 zo y0 y1 y2 y3 y4 y5
 refine KP.mono ?_
 rintro e w5 ⟨rfl, S5, q5⟩
 have Q5 := zA q5
 have F5 := zA (q5.chg.blk Q4.out (fun e => by have := LT.out _ (.inl e); have := SZ.out; omega))
 have M1 := zA ((L1.out.below B4.out).kst q5)
 have M2 := zA ((L2.out.below B4.out).kst q5)
 have M4 := zA ((L4.out.below B4.out).kst q5)
 obtain ⟨u1, u2, u3, u4, ap, cp, af, cf', hs⟩ := q5.st
 have HS := zA hs
 obtain ⟨nf, hnf⟩ : ∃ nf, nf = k.frames.length := ⟨_, rfl⟩
 have HNF := zA hnf
 have HNM : Aa2 (nf = m + 1) := ⟨by rw [hnf]; exact HFM.out⟩
 have g0 : ((o'.length : Int) != (f.height : Int)) = false := by rw [HO.out]; simp
 have g1 : (o'.length != f.height) = false := by rw [HO.out]; simp
 clear KP q5 hs hnf
 go_wp2_with fail
 obtain ⟨w6, hw6⟩ : ∃ w6, World.drew w5 = w6 := ⟨_, rfl⟩
 have b6 : Below w5.heap.size w5 w6 := by rw [← hw6]; exact (Below.refl _ _).drew
 have H6 := zA (HS.out.below b6)
 have F6 := zA (Aa3 F5.out b6)
 have N1 := zA (M1.out.below b6)
 have N2 := zA (M2.out.below b6)
 have N4 := zA (M4.out.below b6)
 have Q6 := zA (Q5.out.below b6)
 have z3 := bc_ F6.out 3
 have KZ := Ae5 g 5 ap _ cp w6 H6.out.c5
 dsimp only at KZ
 clear b6
 refine Ab3 (n := 7) (S := fun w' => w'.cell? ⟨w2.heap.size, 3, none⟩ = some (.int .i64 f.height)) (ds := []) (bm_ 7 0) (by kernel_rfl) rfl rfl ((by rw [hw6]; exact z3)) (fun hHeld => ?_)
 rw [hw6] at hHeld ⊢
 clear hw6 z3
 refine pz_ 0 31 7 1 ?_
 refine pz_ 1 32 7 3 ?_
 refine pz_ 2 33 7 7 ?_
 refine pz_ 4 35 7 23 ?_
 refine tz_ 5 36 7 55 hHeld ?_
 refine oz_ 3 34 7 63 fun K hK => ?_
 refine gz_ Tryz.func71 #[.pointer (some ⟨g, 5, none⟩)] ?_
 with_reducible refine (KZ).mono ?_
 rintro e w7 ⟨rfl, e7⟩
 rw [e7]
 clear e7 KZ
 refine ⟨_, rfl, ?_⟩
 refine hK.out _ _ (hHeld) (fun hHeld => ?_)
 clear hK K
 refine nz_ ?_
 refine pz_ 6 37 7 127 ?_
 refine dz_ ?_
 clear hHeld g0 g1
 go_wp2_with fail
 obtain ⟨w7, hw7⟩ : ∃ w7, World.drew w6 = w7 := ⟨_, rfl⟩
 have b7 : Below w6.heap.size w6 w7 := by rw [← hw7]; exact (Below.refl _ _).drew
 have H7 := zA (H6.out.below b7)
 have F7 := zA (Aa3 F6.out b7)
 have R1 := zA (N1.out.below b7)
 have R2 := zA (N2.out.below b7)
 have R4 := zA (N4.out.below b7)
 have Q7 := zA (Q6.out.below b7)
 have hc6 := H7.out.c6
 dsimp only at hc6
 rw [← HNF.out] at hc6
 have KS := Ae6 g 6 af nf cf' w7 hc6
 have e1 : wrap64 ((nf : Int) - 1) = (m : Int) := by have := HF.out.2.2.2.2; have := HNF.out; have := HNM.out; unfold wrap64; omega
 have MC : Aa2 (m ≤ cf' ∧ cf' ≤ 9223372036854775807) := ⟨by
  have h1 := H7.out.cf_le
  dsimp only at h1
  rw [← HNF.out] at h1
  obtain ⟨rows, _, hcr, _⟩ := H7.out.frs
  exact ⟨by have := HNM.out; omega, hcr.cap⟩⟩
 have KC := Bv6 g 6 af nf cf' m w7 hc6 (Aa1 H7.out.box 6) MC.out.1 MC.out.2
 rw [← e1] at KC
 have GN : Aa2 (w2.heap.size ≠ g) := ⟨by have := LT.out g (.inl H1.out.own); have := SZ.out; omega⟩
 clear b7 hc6 e1
 refine Ab3 (n := 9) (S := fun w' => True) (ds := [8]) (bm_ 9 0) (by kernel_rfl) rfl rfl trivial (fun hHeld => ?_)
 rw [hw7]
 clear hw7
 refine pz_ 0 38 9 1 ?_
 refine pz_ 1 39 9 3 ?_
 refine pz_ 2 40 9 7 ?_
 refine pz_ 3 41 9 15 ?_
 refine pz_ 4 42 9 31 ?_
 refine pz_ 5 43 9 63 ?_
 refine oz_ 6 44 9 127 fun K hK => ?_
 refine gz_ Tryz.func51 #[.pointer (some ⟨g, 6, none⟩)] ?_
 with_reducible refine (KS).mono ?_
 rintro e w8 ⟨rfl, e8⟩
 rw [e8]
 clear e8 KS
 refine ⟨_, rfl, ?_⟩
 refine hK.out _ _ (trivial) (fun hHeld => ?_)
 clear hK K
 refine nz_ ?_
 refine pz_ 7 45 9 255 ?_
 refine lz_ 8 46 9 511 fun K hK => ?_
 refine gz_ Tryz.func84 #[.pointer (some ⟨g, 6, none⟩), .int .i64 (wrap64 ((nf : Int) - 1))] ?_
 with_reducible refine (KC).mono ?_
 rintro e w8 ⟨rfl, e8⟩
 rw [e8]
 clear e8 KC
 refine ⟨_, rfl, ?_⟩
 refine hK.out _ _ ?_
 clear hK K
 refine nz_ ?_
 refine dz_ ?_
 have C8 : Aa2 (Chg (fun x => x = g) w7 (w7.setCell ⟨g, 6, none⟩ (.slice af m m))) := ⟨Ae0 w7 g 6 _⟩
 have BX8 : Aa2 ((w7.setCell ⟨g, 6, none⟩ (.slice af m m)).heap[g]? = some (.cells #[.bool true, u1, u2, u3, u4, .slice ap o'.length cp, .slice af m m] 102 (0, 0))) := ⟨by have h_ := Aa7 H7.out.box 6 (.slice af m m); simpa using h_⟩
 obtain ⟨w8, hw8⟩ : ∃ w8, w7.setCell ⟨g, 6, none⟩ (.slice af m m) = w8 := ⟨_, rfl⟩
 rw [hw8] at C8 BX8
 have z4 := bc_ (C8.out.blk F7.out GN.out) 4
 have SG : Aa2 (S5 g) := ⟨H7.out.own⟩
 have lk8 : ∀ {α : Type} {K : Kd α} {v : Value} {xs : List α}, LK K (fun x => S5 x ∨ D x) w7 v xs → LK K (fun x => S5 x ∨ D x) w8 v xs := fun h_ => h_.to C8.out (fun x e => .inl (.inl (by rw [e]; exact SG.out))) (fun x e => .inl e)
 have T1 := zA (lk8 R1.out)
 have T2 := zA (lk8 R2.out)
 have LT8 : Aa2 (∀ x, S5 x ∨ D x → x < w8.heap.size) := ⟨fun x e => Nat.lt_of_lt_of_le (H7.out.lt x e) C8.out.size⟩
 have KB := Ar4 (S' := fun x => S5 x ∨ D x) (lk8 R4.out) (by have := HL.out.2.2; omega) LT8.out
 have F8 := zA (C8.out.blk F7.out GN.out)
 clear lk8
 rw [hw8]
 clear hw8
 go_wp2_with fail
 clear z4
 refine KB.mono ?_
 rintro e w9 ⟨vb, rfl, hvb, hb9⟩
 obtain ⟨Ab, cb, rfl⟩ := hvb.slice
 have VB := zA hvb
 have B9 := zA hb9
 have BX9 := zA (Aa3 BX8.out hb9)
 have F9 := zA (Aa3 F8.out hb9)
 have U1 := zA (T1.out.below hb9)
 have U2 := zA (T2.out.below hb9)
 have c3 := bc_ BX9.out 3
 have f3 := Aa1 BX9.out 3
 have lp : g < w9.heap.size := Ac0 BX9.out
 clear KB hvb hb9
 go_wp2_with fail
 obtain ⟨w10, hw10⟩ : ∃ w10, w9.setCell ⟨g, 3, none⟩ (.slice Ab f.sets.length cb) = w10 := ⟨_, rfl⟩
 have C10 : Aa2 (Chg (fun x => x = g) w9 w10) := ⟨by rw [← hw10]; exact Ae0 w9 g 3 _⟩
 have BX10 : Aa2 (w10.heap[g]? = some (.cells #[.bool true, u1, u2, .slice Ab f.sets.length cb, u4, .slice ap o'.length cp, .slice af m m] 102 (0, 0))) := ⟨by rw [← hw10]; have h_ := Aa7 BX9.out 3 (.slice Ab f.sets.length cb); simpa using h_⟩
 have lk10 : ∀ {α : Type} {K : Kd α} {v : Value} {xs : List α}, LK K (fun x => S5 x ∨ D x) w9 v xs → LK K (fun x => S5 x ∨ D x) w10 v xs := fun h_ => h_.to C10.out (fun x e => .inl (.inl (by rw [e]; exact SG.out))) (fun x e => .inl e)
 have C710 : Aa2 (Chg (fun x => x = g) w7 w10) := ⟨(C8.out.trans (Chg.of_below B9.out (fun _ => False)) (fun _ e => .inl e) (fun _ e => e.elim)).trans C10.out (fun _ e => .inl e) (fun _ e => .inl e)⟩
 have HEND : Aa2 (StV D S5 g (Ao0 k f o') w10 u1 u2 (.slice Ab f.sets.length cb) u4 ap cp af m) := ⟨by
  have hS : Chg S5 w7 w10 := C710.out.mono (fun x e => .inl (by rw [e]; exact SG.out))
  have hlen : (k.frames.take (k.frames.length - 1)).length = m := by rw [List.length_take, HFM.out]; omega
  refine H7.out.out (k' := Ao0 k f o') hS (fun _ e => e) (fun _ e => .inl e) (fun x e => Nat.lt_of_lt_of_le (H7.out.lt x (.inl e)) hS.size) rfl rfl rfl (lk10 VB.out) ?_ (H7.out.ops_step C710.out (fun x e => H7.out.ao_ne x e) (fun _ e => e)) ?_
  ·show w10.heap[g]? = some (.cells #[.bool true, u1, u2, .slice Ab f.sets.length cb, u4, .slice ap o'.length cp, .slice af (k.frames.take (k.frames.length - 1)).length m] 102 (0, 0))
   rw [hlen]
   exact BX10.out
  ·have h_ := (H7.out.frs_step C710.out (fun x e => by rw [e]; exact SG.out) (fun x e hn => (H7.out.af_ne x e).1 hn) (fun _ e => e) (fun _ e => .inl e)).cut m (by dsimp only; rw [HFM.out]; omega)
   unfold Ao0
   dsimp only at h_ ⊢
   rw [HFM.out, Nat.add_sub_cancel]
   exact h_⟩
 have P1 := zA (lk10 U1.out)
 have P2 := zA (lk10 U2.out)
 have F10 := zA (C10.out.blk F9.out GN.out)
 have K10 : Aa2 (Kst D S g w1 (Ao0 k f o') S5 w10) := ⟨by
  have h_ := Q7.out.ahead B4.out
  exact ⟨h_.sub, h_.grow, ⟨_, _, _, _, _, _, _, _, HEND.out⟩, h_.chg.trans C710.out (fun _ e => .inl e) (fun x e => by rw [e]; exact .inl H1.out.own)⟩⟩
 rw [hw10]
 obtain ⟨w11, hw11⟩ : ∃ w11, World.drew w10 = w11 := ⟨_, rfl⟩
 have b11 : Below w10.heap.size w10 w11 := by rw [← hw11]; exact (Below.refl _ _).drew
 have B11 := zA b11
 have KC := Ag1 (S' := fun x => S5 x ∨ D x) (P1.out.below b11) (by have := HL.out.1; omega) (fun x e => Nat.lt_of_lt_of_le (HEND.out.lt x e) b11.size)
 have F11 := zA (Aa3 F10.out b11)
 have y0 := bc_ F11.out 0
 have y1 := bc_ F11.out 1
 have y2 := bc_ F11.out 2
 clear b11 c3 f3 lp lk10 hw10
 refine Ab3 (n := 12) (S := fun w' => w'.cell? ⟨w2.heap.size, 0, none⟩ = some (.int .i64 f.op) ∧ w'.cell? ⟨w2.heap.size, 1, none⟩ = some (.slice A1 f.ins.length c1) ∧ w'.cell? ⟨w2.heap.size, 2, none⟩ = some (.slice A2 f.outs.length c2)) (ds := []) (bm_ 12 0) (by kernel_rfl) rfl rfl ⟨(by rw [hw11]; exact y0), (by rw [hw11]; exact y1), (by rw [hw11]; exact y2)⟩ (fun hHeld => ?_)
 rw [hw11] at hHeld ⊢
 clear hw11 y0 y1 y2
 refine pz_ 0 53 12 1 ?_
 refine pz_ 2 55 12 5 ?_
 refine pz_ 5 58 12 37 ?_
 refine tz_ 1 54 12 39 hHeld ?_
 refine tz_ 3 56 12 47 hHeld ?_
 refine tz_ 6 59 12 111 hHeld ?_
 refine oz_ 4 57 12 127 fun K hK => ?_
 refine gz_ Tryz.func50 #[.slice A1 f.ins.length c1] ?_
 with_reducible refine (KC).mono ?_
 rintro e w12 ⟨v8, rfl, hv8, hb12⟩
 have V8 := zA hv8
 have BY := zA hb12
 have B12 := zA (B11.out.trans (hb12.mono B11.out.size))
 clear hv8 hb12 KC
 refine ⟨_, rfl, ?_⟩
 refine hK.out _ _ ⟨BY.out.kp hHeld.1, BY.out.kp hHeld.2.1, BY.out.kp hHeld.2.2⟩ (fun hHeld => ?_)
 clear hK K
 refine nz_ ?_
 refine oz_ 7 60 12 255 fun K hK => ?_
 have KD := Ag1 (S' := fun x => S5 x ∨ D x) (P2.out.below B12.out) (by have := HL.out.2.1; omega) (fun x e => Nat.lt_of_lt_of_le (HEND.out.lt x e) B12.out.size)
 refine gz_ Tryz.func50 #[.slice A2 f.outs.length c2] ?_
 with_reducible refine (KD).mono ?_
 rintro e w13 ⟨v9, rfl, hv9, hb13⟩
 have V9 := zA hv9
 have BX := zA hb13
 have V85 := zA (V8.out.below hb13)
 have B13 := zA (B12.out.trans (hb13.mono B12.out.size))
 clear hv9 hb13 KD
 refine ⟨_, rfl, ?_⟩
 refine hK.out _ _ ⟨BX.out.kp hHeld.1, BX.out.kp hHeld.2.1, BX.out.kp hHeld.2.2⟩ (fun hHeld => ?_)
 clear hK K
 refine nz_ ?_
 refine pz_ 8 2 12 511 ?_
 refine pz_ 9 3 12 1023 ?_
 refine pz_ 10 4 12 2047 ?_
 refine pz_ 11 5 12 4095 ?_
 refine dz_ ?_
 go_wp2_with fail
 rw [Bm0]
 refine bodyPost_ret (Ay3 rfl _ _ _) rfl ?_
 exact ⟨v8, v9, S5, rfl, V85.out, V9.out, K10.out.below B13.out⟩
end
section
variable {D S : Nat → Prop} {g : Nat} {k : Chk} {w : World} {f : Fr} {X : CX}
set_option maxHeartbeats 4000000 in
theorem Cf1 (h : St D S g k w) (hg : GOk k.l) (hf : k.frames[k.frames.length - 1]? = some f) (hh : f.height ≤ k.ops.length) (hm : k.ops.length ≤ 1073741824) (hn : k.frames.length ≤ 1073741824) (hl1 : f.ins.length ≤ 1073741824) (hl2 : f.outs.length ≤ 1073741824) (hl4 : f.sets.length ≤ 1073741824) {o' : List S39} (hp : Al5 k.l f.height f.dead f.outs k.ops = (0, o')) (ho : o'.length = f.height) (hop : f.op ≠ 4) (hd : 1 < k.frames.length) (X : CX) :
  Calls Tryz.prog 14 #[.agg #[.slice X.A0 X.l0.length X.c0, .slice X.A1 X.l1.length X.c1, .slice X.A2 X.l2.length X.c2, .slice X.A3 X.l3.length X.c3, .slice X.A4 X.l4.length X.c4, .slice X.A5 X.l5.length X.c5, .slice X.A6 X.l6.length X.c6, .int .i64 X.d7, .slice X.A8 X.l8.length X.c8], .pointer (some ⟨g, 0, none⟩)] w (KOut D S g { Ao0 k f o' with ops := o' ++ f.outs } (.int .i64 0) w) := by
 obtain ⟨W, hW⟩ : ∃ W, W = w.alloc (.cells #[.slice X.A0 X.l0.length X.c0, .slice X.A1 X.l1.length X.c1, .slice X.A2 X.l2.length X.c2, .slice X.A3 X.l3.length X.c3, .slice X.A4 X.l4.length X.c4, .slice X.A5 X.l5.length X.c5, .slice X.A6 X.l6.length X.c6, .int .i64 X.d7, .slice X.A8 X.l8.length X.c8] 30) := ⟨_, rfl⟩
 have b1 : Below w.heap.size w W := by rw [hW]; exact bz_
 have K0 := Bv9 (h.below b1) hf (by omega) (by omega) (by omega)
 have H1 := zA (h.below b1)
 have B1 := zA b1
 have HF := zA (And.intro hg (And.intro hf (And.intro hh (And.intro hm hn))))
 have HL := zA (And.intro hl1 (And.intro hl2 hl4))
 have HP := zA (And.intro hp ho)
 have HD := zA hd
 have HO : Aa2 (o'.length ≤ k.ops.length) := ⟨by rw [ho]; exact hh⟩
 have g4 : (f.op == 4) = false := beq_eq_false_iff_ne.mpr hop
 clear h hg hf hh hm hn hl1 hl2 hl4 hp ho hop hd b1
 go_enter Tryz.func14, Tryz.ntmps14
 go_wp2_with fail
 rw [← hW]
 clear hW
 refine K0.mono ?_
 rintro e w2 ⟨v1, v2, rfl, lk1, lk2, hb⟩
 obtain ⟨A2, c2, rfl⟩ := lk2.slice
 have L2 := zA lk2
 have H2 := zA (H1.out.below hb)
 have B2 := zA (B1.out.trans (hb.mono B1.out.size))
 have K1 := Ci5 (H1.out.below hb) HF.out.1 HF.out.2.1 HF.out.2.2.1 (by have := HF.out.2.2.2.1; omega) (by have := HF.out.2.2.2.2; omega) (by have := HL.out.1; omega) (by have := HL.out.2.1; omega) (by have := HL.out.2.2; omega) HP.out.1 HP.out.2
 obtain ⟨nl, hnl⟩ : ∃ nl, nl = f.outs.length := ⟨_, rfl⟩
 have HNL := zA hnl
 rw [← hnl]
 clear K0 lk1 lk2 hb hnl
 go_wp2_with fail
 refine K1.mono ?_
 rintro e w3 ⟨u1, u2, S3, rfl, lk3, lk4, q3⟩
 have Q3 := zA q3
 have M2 := zA (L2.out.kst q3)
 have KD := Ay7 q3.st
 obtain ⟨n1, hn1⟩ : ∃ n1, n1 = (Ao0 k f o').frames.length := ⟨_, rfl⟩
 rw [← hn1] at KD
 have hp1 : 0 < n1 := by
  rw [hn1]
  unfold Ao0
  dsimp only
  rw [List.length_take]
  have := HD.out
  omega
 have g5 : decide ((0 : Int) < (n1 : Int)) = true := decide_eq_true (by omega)
 have g6 : decide (0 < n1) = true := decide_eq_true hp1
 have N1 := zA (And.intro hn1 hp1)
 clear K1 lk3 lk4 q3 g4 hn1 hp1
 go_wp2_with fail
 refine KD.mono ?_
 rintro e w4 ⟨rfl, e4⟩
 subst e4
 clear KD
 have KP := Aj4 (A := A2) (c := c2) (l := f.outs) Q3.out.st M2.out (by rw [← N1.out.1]; exact N1.out.2) (by have := HO.out; have := HF.out.2.2.2.1; have := HL.out.2.1; unfold Ao0; dsimp only; omega)
 rw [← HNL.out] at KP
 go_wp2_with fail
 refine KP.mono ?_
 rintro e w5 ⟨rfl, S5, q5⟩
 have Q5 := zA ((Q3.out.trans q5).ahead B2.out)
 clear KP q5
 go_wp2_with fail
 go_ret
 exact ⟨rfl, S5, Q5.out⟩
end
theorem ftV_len1 (l : List S132) (hb : vL l ≤ 1048576) (n : Int) : (ftV l n).1.length + 1 ≤ 1048576 := by
 unfold ftV
 cases h : atN l n with
 | none => simp
 | some s =>
  have h' : atV l n = some s := by unfold atN at h; split at h; (· cases h); exact h
  obtain ⟨r, h1, h2⟩ := Bw9 l n s h'
  have h3 := Ap0 vS r.f0 s h2
  have h4 := Ap0 (fun r => vG r.f0 + 1) l r h1
  unfold vL at hb
  unfold vG at h4 hb
  have h5 : s.f1.length + s.f2.f1.length + s.f2.f2.length + s.f2.f3.length + 1 = vS s := rfl
  dsimp only
  split
  ·dsimp only; omega
  ·simp
theorem Bn1 {w1 : World} {X : CX} {I : IX} (hx : XK w1 X I) (n : Nat) : (tagM X n).2.length + 1 ≤ 1048576 := by
 unfold tagM
 split
 ·exact ftV_len1 X.l0 hx.xin.bulk _
 ·exact (by decide)
section
variable {w1 w w' : World} {D S S' : Nat → Prop} {kb g : Nat} {X : CX} {I : IX} {k k' : Chk} {f : Fr}
def Bk1 (w : World) (e : Ending) (w' : World) : Prop := (∃ er : Int, e = .returned (.int .i64 er)) ∧ Below w.heap.size w w'
set_option maxHeartbeats 4000000 in
theorem Ce8 (h : St D S g k w) (hF : Fit k f) (hk : KI w1 D S kb g X I w) (hx : XK w1 X I) (hG : GOk X.l0) (tg lb : Nat) (htg : tg ≤ 4294967295) (hlb : lb ≤ 4294967295) : Calls Tryz.prog 37 #[.pointer (some ⟨kb, 0, none⟩), .agg #[.int .i64 2, .int .u32 tg, .int .u32 lb]] w (Bk1 w) := by
 obtain ⟨W, hW⟩ : ∃ W, W = w.alloc (.cells #[.int .i64 2, .int .u32 tg, .int .u32 lb] 89) := ⟨_, rfl⟩
 have b1 : Below w.heap.size w W := by rw [hW]; exact bz_
 have q1 : W.heap[w.heap.size]? = some (.cells #[.int .i64 2, .int .u32 tg, .int .u32 lb] 89 (0, 0)) := by rw [hW]; exact Aa6 w _
 have Q1 := zA q1
 have B1 := zA b1
 have H1 := zA (h.below b1)
 have HF := zA hF
 have HK1 := zA (hk.below b1)
 have HX := zA hx
 have HG := zA hG
 have HLB := zA hlb
 have HTG := zA htg
 clear h hF hk hx hG b1 q1 htg hlb
 go_enter Tryz.func37, Tryz.ntmps37
 go_wp2_with fail
 rw [← hW]
 clear hW
 obtain ⟨w4, hw4⟩ : ∃ w4, World.drew W = w4 := ⟨_, rfl⟩
 have b4 : Below W.heap.size W w4 := by rw [← hw4]; exact (Below.refl _ _).drew
 have B4 := zA (B1.out.trans (b4.mono B1.out.size))
 have H4 := zA (H1.out.below b4)
 have HK4 := zA (HK1.out.below b4)
 have Q4 := zA (Aa3 Q1.out b4)
 have G4 := zA ((LK.nil k39 (fun x => S x ∨ D x) W).below b4)
 have KL := HF.out.lab H4.out lb HLB.out
 obtain ⟨er, l, hr⟩ : ∃ er l, labM k.frames lb = (er, l) := ⟨_, _, rfl⟩
 rw [hr] at KL
 have z9 := HK4.out.pc
 have y2 := bc_ Q4.out 2
 have HE : Aa2 (er = 0 ∨ er ≠ 0) := ⟨Decidable.em _⟩
 clear b4 hr
 refine Ab3 (n := 12) (S := fun w' => w'.cell? ⟨kb, 9, none⟩ = some (.pointer (some ⟨g, 0, none⟩)) ∧ w'.cell? ⟨w.heap.size, 2, none⟩ = some (.int .u32 lb)) (ds := []) (bm_ 12 0) (by kernel_rfl) rfl rfl ⟨(by rw [hw4]; exact z9), (by rw [hw4]; exact y2)⟩ (fun hHeld => ?_)
 rw [hw4] at hHeld ⊢
 clear hw4 z9 y2
 refine pz_ 0 51 12 1 ?_
 refine pz_ 1 52 12 3 ?_
 refine pz_ 2 53 12 7 ?_
 refine pz_ 4 55 12 23 ?_
 refine tz_ 3 54 12 31 hHeld ?_
 refine tz_ 5 56 12 63 hHeld ?_
 refine oz_ 6 57 12 127 fun K hK => ?_
 refine gz_ Tryz.func78 #[.pointer (some ⟨g, 0, none⟩), .int .u32 lb] ?_
 with_reducible refine (KL).mono ?_
 rintro e w5 ⟨v5, rfl, hl, hb⟩
 obtain ⟨A5, c5, rfl⟩ := hl.slice
 have L5 := zA hl
 have B5 := zA (B4.out.trans (hb.mono B4.out.size))
 have HB5 := zA hb
 clear hl hb KL
 refine ⟨_, rfl, ?_⟩
 refine hK.out _ _ ⟨HB5.out.kp hHeld.1, HB5.out.kp hHeld.2⟩ (fun hHeld => ?_)
 clear hK K
 refine nz_ ?_
 refine pz_ 7 50 12 255 ?_
 refine pz_ 8 58 12 511 ?_
 refine pz_ 9 59 12 1023 ?_
 refine pz_ 10 8 12 2047 ?_
 refine pz_ 11 9 12 4095 ?_
 refine dz_ ?_
 rcases HE.out with he | he
 rotate_left
 ·have g0 : (er == 0) = false := beq_eq_false_iff_ne.mpr he
  have g1 := bne_iff_ne.mpr he
  clear he
  go_wp2_with fail
  go_ret
  exact ⟨⟨_, rfl⟩, B5.out⟩
 subst he
 have KV := Al3 HG.out (HG.out.la ((HK4.out.below HB5.out).lent Ao2 HX.out.xin.h0 HX.out.xin.r0)) (H4.out.below HB5.out).tab none 0 ([] : List S39) A5 c5 l (G4.out.below HB5.out).reads.2.2 L5.out.reads.2.2 (Nat.zero_le _)
 obtain ⟨b, hb⟩ : ∃ b, b = Az5 X.l0 ([] : List S39) l := ⟨_, rfl⟩
 rw [← hb] at KV
 have z0 := bc_ (HK4.out.below HB5.out).box 0
 clear hb
 go_wp2_with fail
 refine KV.mono ?_
 rintro e w6 ⟨rfl, hb6⟩
 have B6 := zA (B5.out.trans (hb6.mono B5.out.size))
 clear KV hb6 z0
 cases b
 all_goals
  go_wp2_with fail
  go_ret
  exact ⟨⟨_, rfl⟩, B6.out⟩
set_option maxHeartbeats 4000000 in
theorem Ce7 (h : St D S g k w) (hF : Fit k f) (hk : KI w1 D S kb g X I w) (hx : XK w1 X I) (hG : GOk X.l0) (tg lb : Nat) (htg : tg ≤ 4294967295) (hlb : lb ≤ 4294967295) : Calls Tryz.prog 37 #[.pointer (some ⟨kb, 0, none⟩), .agg #[.int .i64 3, .int .u32 tg, .int .u32 lb]] w (Bk1 w) := by
 obtain ⟨W, hW⟩ : ∃ W, W = w.alloc (.cells #[.int .i64 3, .int .u32 tg, .int .u32 lb] 89) := ⟨_, rfl⟩
 have b1 : Below w.heap.size w W := by rw [hW]; exact bz_
 have q1 : W.heap[w.heap.size]? = some (.cells #[.int .i64 3, .int .u32 tg, .int .u32 lb] 89 (0, 0)) := by rw [hW]; exact Aa6 w _
 have Q1 := zA q1
 have B1 := zA b1
 have H1 := zA (h.below b1)
 have HF := zA hF
 have HK1 := zA (hk.below b1)
 have HX := zA hx
 have HG := zA hG
 have HLB := zA hlb
 have HTG := zA htg
 clear h hF hk hx hG b1 q1 htg hlb
 go_enter Tryz.func37, Tryz.ntmps37
 go_wp2_with fail
 rw [← hW]
 clear hW
 have KCl := Bf5 (fun x => S x ∨ D x) (v := .slice none ([] : List S39).length 0) ([] : List S39) W (LK.nil k39 (fun x => S x ∨ D x) W) (show ([] : List S39).length ≤ 4294967296 from Nat.zero_le _)
 go_wp2_with fail
 refine KCl.mono ?_
 rintro e wa ⟨va, rfl, hra, hba⟩
 have RA := zA hra
 have BA := zA hba
 have KR := Bh8 false (-11) wa
 clear KCl hra hba
 go_wp2_with fail
 refine KR.mono ?_
 rintro e wb ⟨rfl, hbb⟩
 have RB := zA (Kd.Ac5 RA.out hbb)
 have BB := zA (BA.out.trans (hbb.mono BA.out.size))
 clear KR hbb
 go_wp2_with (at_builtin; refine Kd.Af9 k39 (w0 := W) W.heap.size rfl (.tmp 46) (.tmp 48) 27 39 (.agg #[.int .i64 0, .bool false, .int .i64 0]) 24 rfl Tryz.underlying27 Am5 rfl (by decide) (by decide) va (([] : List S39)) ⟨5, false, -11⟩ [.int .i64 5, .bool false, .int .i64 (-11)] (fun _ => True) (fun _ => False) rfl rfl (Ai2 _ _ _ (⟨5, false, -11⟩ : S39)) (fun _ hk_ => hk_.elim) (fun _ _ => trivial) RB.out BB.out BB.out.size (by decide) ?_; intro v3 w3 hr3 hb3 _ _; obtain ⟨g3, hg3⟩ : ∃ g3, g3 = (([] : List S39) ++ [(⟨5, false, -11⟩ : S39)] : List S39) := ⟨_, rfl⟩; rw [← hg3] at hr3; have HG3 := zA hg3; clear hg3; obtain ⟨A3, c3, ev3⟩ := Kd.Aa9 hr3; subst ev3; have G3 := zA (LK.fresh hr3 (fun x e => H1.out.lt x e)); have H3 := zA (H1.out.below hb3); have K3 := zA (HK1.out.below hb3); have Q3 := zA (Aa3 Q1.out hb3); have B3 := zA (B1.out.trans (hb3.mono B1.out.size)); clear hr3 hb3)
 obtain ⟨w4, hw4⟩ : ∃ w4, World.drew w3 = w4 := ⟨_, rfl⟩
 have b4 : Below w3.heap.size w3 w4 := by rw [← hw4]; exact (Below.refl _ _).drew
 have B4 := zA (B3.out.trans (b4.mono B3.out.size))
 have H4 := zA (H3.out.below b4)
 have HK4 := zA (K3.out.below b4)
 have Q4 := zA (Aa3 Q3.out b4)
 have G4 := zA (G3.out.below b4)
 have KL := HF.out.lab H4.out lb HLB.out
 obtain ⟨er, l, hr⟩ : ∃ er l, labM k.frames lb = (er, l) := ⟨_, _, rfl⟩
 rw [hr] at KL
 have z9 := HK4.out.pc
 have y2 := bc_ Q4.out 2
 have HE : Aa2 (er = 0 ∨ er ≠ 0) := ⟨Decidable.em _⟩
 clear b4 hr
 refine Ab3 (n := 12) (S := fun w' => w'.cell? ⟨kb, 9, none⟩ = some (.pointer (some ⟨g, 0, none⟩)) ∧ w'.cell? ⟨w.heap.size, 2, none⟩ = some (.int .u32 lb)) (ds := []) (bm_ 12 0) (by kernel_rfl) rfl rfl ⟨(by rw [hw4]; exact z9), (by rw [hw4]; exact y2)⟩ (fun hHeld => ?_)
 rw [hw4] at hHeld ⊢
 clear hw4 z9 y2
 refine pz_ 0 51 12 1 ?_
 refine pz_ 1 52 12 3 ?_
 refine pz_ 2 53 12 7 ?_
 refine pz_ 4 55 12 23 ?_
 refine tz_ 3 54 12 31 hHeld ?_
 refine tz_ 5 56 12 63 hHeld ?_
 refine oz_ 6 57 12 127 fun K hK => ?_
 refine gz_ Tryz.func78 #[.pointer (some ⟨g, 0, none⟩), .int .u32 lb] ?_
 with_reducible refine (KL).mono ?_
 rintro e w5 ⟨v5, rfl, hl, hb⟩
 obtain ⟨A5, c5, rfl⟩ := hl.slice
 have L5 := zA hl
 have B5 := zA (B4.out.trans (hb.mono B4.out.size))
 have HB5 := zA hb
 clear hl hb KL
 refine ⟨_, rfl, ?_⟩
 refine hK.out _ _ ⟨HB5.out.kp hHeld.1, HB5.out.kp hHeld.2⟩ (fun hHeld => ?_)
 clear hK K
 refine nz_ ?_
 refine pz_ 7 50 12 255 ?_
 refine pz_ 8 58 12 511 ?_
 refine pz_ 9 59 12 1023 ?_
 refine pz_ 10 8 12 2047 ?_
 refine pz_ 11 9 12 4095 ?_
 refine dz_ ?_
 rcases HE.out with he | he
 rotate_left
 ·have g0 : (er == 0) = false := beq_eq_false_iff_ne.mpr he
  have g1 := bne_iff_ne.mpr he
  clear he
  go_wp2_with fail
  go_ret
  exact ⟨⟨_, rfl⟩, B5.out⟩
 subst he
 have KV := Al3 HG.out (HG.out.la ((HK4.out.below HB5.out).lent Ao2 HX.out.xin.h0 HX.out.xin.r0)) (H4.out.below HB5.out).tab A3 c3 g3 A5 c5 l (G4.out.below HB5.out).reads.2.2 L5.out.reads.2.2 (by rw [HG3.out]; exact (by decide))
 obtain ⟨b, hb⟩ : ∃ b, b = Az5 X.l0 g3 l := ⟨_, rfl⟩
 rw [← hb] at KV
 have z0 := bc_ (HK4.out.below HB5.out).box 0
 clear hb
 go_wp2_with fail
 refine KV.mono ?_
 rintro e w6 ⟨rfl, hb6⟩
 have B6 := zA (B5.out.trans (hb6.mono B5.out.size))
 clear KV hb6 z0
 cases b
 all_goals
  go_wp2_with fail
  go_ret
  exact ⟨⟨_, rfl⟩, B6.out⟩
set_option maxHeartbeats 4000000 in
theorem Cf0 (h : St D S g k w) (hF : Fit k f) (hk : KI w1 D S kb g X I w) (hx : XK w1 X I) (hG : GOk X.l0) (tg lb : Nat) (htg : tg ≤ 4294967295) (hlb : lb ≤ 4294967295) : Calls Tryz.prog 37 #[.pointer (some ⟨kb, 0, none⟩), .agg #[.int .i64 0, .int .u32 tg, .int .u32 lb]] w (Bk1 w) := by
 obtain ⟨W, hW⟩ : ∃ W, W = w.alloc (.cells #[.int .i64 0, .int .u32 tg, .int .u32 lb] 89) := ⟨_, rfl⟩
 have b1 : Below w.heap.size w W := by rw [hW]; exact bz_
 have q1 : W.heap[w.heap.size]? = some (.cells #[.int .i64 0, .int .u32 tg, .int .u32 lb] 89 (0, 0)) := by rw [hW]; exact Aa6 w _
 have Q1 := zA q1
 have B1 := zA b1
 have H1 := zA (h.below b1)
 have HF := zA hF
 have HK1 := zA (hk.below b1)
 have HX := zA hx
 have HG := zA hG
 have HLB := zA hlb
 have HTG := zA htg
 clear h hF hk hx hG b1 q1 htg hlb
 go_enter Tryz.func37, Tryz.ntmps37
 go_wp2_with fail
 rw [← hW]
 clear hW
 have KT := Bh7 H1.out HK1.out HX.out tg HTG.out
 have TL := zA (Bn1 HX.out tg)
 obtain ⟨te, tl, ht⟩ : ∃ te tl, tagM X tg = (te, tl) := ⟨_, _, rfl⟩
 rw [ht] at KT TL
 have TE : Aa2 (te = 0 ∨ te ≠ 0) := ⟨Decidable.em _⟩
 clear ht
 refine KT.mono ?_
 rintro e w2 ⟨v2, rfl, hl2, hb2⟩
 obtain ⟨A2, c2, rfl⟩ := hl2.slice
 have L2 := zA hl2
 have H2 := zA (H1.out.below hb2)
 have K2 := zA (HK1.out.below hb2)
 have Q2 := zA (Aa3 Q1.out hb2)
 have B2 := zA (B1.out.trans (hb2.mono B1.out.size))
 have TB1 : Aa2 (tl.length + 1 ≤ 1048576) := ⟨TL.out⟩
 have TB : Aa2 (tl.length ≤ 1048576) := ⟨by have h_ := TB1.out; omega⟩
 clear KT hl2 hb2
 dsimp only at L2 ⊢
 rcases TE.out with he | he
 rotate_left
 ·have g0 : (te == 0) = false := beq_eq_false_iff_ne.mpr he
  have g1 := bne_iff_ne.mpr he
  clear he
  go_wp2_with fail
  go_ret
  exact ⟨⟨_, rfl⟩, B2.out⟩
 subst he
 have y0 := bc_ Q2.out 0
 go_wp2_with fail
 clear y0
 obtain ⟨w4, hw4⟩ : ∃ w4, World.drew w2 = w4 := ⟨_, rfl⟩
 have b4 : Below w2.heap.size w2 w4 := by rw [← hw4]; exact (Below.refl _ _).drew
 have B4 := zA (B2.out.trans (b4.mono B2.out.size))
 have H4 := zA (H2.out.below b4)
 have HK4 := zA (K2.out.below b4)
 have Q4 := zA (Aa3 Q2.out b4)
 have G4 := zA (L2.out.below b4)
 have KL := HF.out.lab H4.out lb HLB.out
 obtain ⟨er, l, hr⟩ : ∃ er l, labM k.frames lb = (er, l) := ⟨_, _, rfl⟩
 rw [hr] at KL
 have z9 := HK4.out.pc
 have y2 := bc_ Q4.out 2
 have HE : Aa2 (er = 0 ∨ er ≠ 0) := ⟨Decidable.em _⟩
 clear b4 hr
 refine Ab3 (n := 12) (S := fun w' => w'.cell? ⟨kb, 9, none⟩ = some (.pointer (some ⟨g, 0, none⟩)) ∧ w'.cell? ⟨w.heap.size, 2, none⟩ = some (.int .u32 lb)) (ds := []) (bm_ 12 0) (by kernel_rfl) rfl rfl ⟨(by rw [hw4]; exact z9), (by rw [hw4]; exact y2)⟩ (fun hHeld => ?_)
 rw [hw4] at hHeld ⊢
 clear hw4 z9 y2
 refine pz_ 0 51 12 1 ?_
 refine pz_ 1 52 12 3 ?_
 refine pz_ 2 53 12 7 ?_
 refine pz_ 4 55 12 23 ?_
 refine tz_ 3 54 12 31 hHeld ?_
 refine tz_ 5 56 12 63 hHeld ?_
 refine oz_ 6 57 12 127 fun K hK => ?_
 refine gz_ Tryz.func78 #[.pointer (some ⟨g, 0, none⟩), .int .u32 lb] ?_
 with_reducible refine (KL).mono ?_
 rintro e w5 ⟨v5, rfl, hl, hb⟩
 obtain ⟨A5, c5, rfl⟩ := hl.slice
 have L5 := zA hl
 have B5 := zA (B4.out.trans (hb.mono B4.out.size))
 have HB5 := zA hb
 clear hl hb KL
 refine ⟨_, rfl, ?_⟩
 refine hK.out _ _ ⟨HB5.out.kp hHeld.1, HB5.out.kp hHeld.2⟩ (fun hHeld => ?_)
 clear hK K
 refine nz_ ?_
 refine pz_ 7 50 12 255 ?_
 refine pz_ 8 58 12 511 ?_
 refine pz_ 9 59 12 1023 ?_
 refine pz_ 10 8 12 2047 ?_
 refine pz_ 11 9 12 4095 ?_
 refine dz_ ?_
 rcases HE.out with he | he
 rotate_left
 ·have g0 : (er == 0) = false := beq_eq_false_iff_ne.mpr he
  have g1 := bne_iff_ne.mpr he
  clear he
  go_wp2_with fail
  go_ret
  exact ⟨⟨_, rfl⟩, B5.out⟩
 subst he
 have KV := Al3 HG.out (HG.out.la ((HK4.out.below HB5.out).lent Ao2 HX.out.xin.h0 HX.out.xin.r0)) (H4.out.below HB5.out).tab A2 c2 tl A5 c5 l (G4.out.below HB5.out).reads.2.2 L5.out.reads.2.2 TB.out
 obtain ⟨b, hb⟩ : ∃ b, b = Az5 X.l0 tl l := ⟨_, rfl⟩
 rw [← hb] at KV
 have z0 := bc_ (HK4.out.below HB5.out).box 0
 clear hb
 go_wp2_with fail
 refine KV.mono ?_
 rintro e w6 ⟨rfl, hb6⟩
 have B6 := zA (B5.out.trans (hb6.mono B5.out.size))
 clear KV hb6 z0
 cases b
 all_goals
  go_wp2_with fail
  go_ret
  exact ⟨⟨_, rfl⟩, B6.out⟩
set_option maxHeartbeats 4000000 in
theorem Ce9 (h : St D S g k w) (hF : Fit k f) (hk : KI w1 D S kb g X I w) (hx : XK w1 X I) (hG : GOk X.l0) (tg lb : Nat) (htg : tg ≤ 4294967295) (hlb : lb ≤ 4294967295) : Calls Tryz.prog 37 #[.pointer (some ⟨kb, 0, none⟩), .agg #[.int .i64 1, .int .u32 tg, .int .u32 lb]] w (Bk1 w) := by
 obtain ⟨W, hW⟩ : ∃ W, W = w.alloc (.cells #[.int .i64 1, .int .u32 tg, .int .u32 lb] 89) := ⟨_, rfl⟩
 have b1 : Below w.heap.size w W := by rw [hW]; exact bz_
 have q1 : W.heap[w.heap.size]? = some (.cells #[.int .i64 1, .int .u32 tg, .int .u32 lb] 89 (0, 0)) := by rw [hW]; exact Aa6 w _
 have Q1 := zA q1
 have B1 := zA b1
 have H1 := zA (h.below b1)
 have HF := zA hF
 have HK1 := zA (hk.below b1)
 have HX := zA hx
 have HG := zA hG
 have HLB := zA hlb
 have HTG := zA htg
 clear h hF hk hx hG b1 q1 htg hlb
 go_enter Tryz.func37, Tryz.ntmps37
 go_wp2_with fail
 rw [← hW]
 clear hW
 have KT := Bh7 H1.out HK1.out HX.out tg HTG.out
 have TL := zA (Bn1 HX.out tg)
 obtain ⟨te, tl, ht⟩ : ∃ te tl, tagM X tg = (te, tl) := ⟨_, _, rfl⟩
 rw [ht] at KT TL
 have TE : Aa2 (te = 0 ∨ te ≠ 0) := ⟨Decidable.em _⟩
 clear ht
 refine KT.mono ?_
 rintro e w2 ⟨v2, rfl, hl2, hb2⟩
 obtain ⟨A2, c2, rfl⟩ := hl2.slice
 have L2 := zA hl2
 have H2 := zA (H1.out.below hb2)
 have K2 := zA (HK1.out.below hb2)
 have Q2 := zA (Aa3 Q1.out hb2)
 have B2 := zA (B1.out.trans (hb2.mono B1.out.size))
 have TB1 : Aa2 (tl.length + 1 ≤ 1048576) := ⟨TL.out⟩
 have TB : Aa2 (tl.length ≤ 1048576) := ⟨by have h_ := TB1.out; omega⟩
 clear KT hl2 hb2
 dsimp only at L2 ⊢
 rcases TE.out with he | he
 rotate_left
 ·have g0 : (te == 0) = false := beq_eq_false_iff_ne.mpr he
  have g1 := bne_iff_ne.mpr he
  clear he
  go_wp2_with fail
  go_ret
  exact ⟨⟨_, rfl⟩, B2.out⟩
 subst he
 have y0 := bc_ Q2.out 0
 have N32 : Aa2 (tl.length ≤ 4294967296) := ⟨Nat.le_trans TB.out (by decide)⟩
 have N24 : Aa2 ((tl.length + 1) * 24 ≤ 140737488355328) := ⟨by have h_ := TB.out; omega⟩
 have KCl := Bf5 (fun x => S x ∨ D x) (v := .slice A2 tl.length c2) tl w2 L2.out N32.out
 go_wp2_with fail
 refine KCl.mono ?_
 rintro e wa ⟨va, rfl, hra, hba⟩
 have RA := zA hra
 have BA := zA hba
 have KR := Bh8 false (-11) wa
 clear KCl hra hba
 go_wp2_with fail
 refine KR.mono ?_
 rintro e wb ⟨rfl, hbb⟩
 have RB := zA (Kd.Ac5 RA.out hbb)
 have BB := zA (BA.out.trans (hbb.mono BA.out.size))
 clear KR hbb
 go_wp2_with (at_builtin; refine Kd.Af9 k39 (w0 := w2) w2.heap.size rfl (.tmp 46) (.tmp 48) 27 39 (.agg #[.int .i64 0, .bool false, .int .i64 0]) 24 rfl Tryz.underlying27 Am5 rfl (by decide) (by decide) va (tl) ⟨5, false, -11⟩ [.int .i64 5, .bool false, .int .i64 (-11)] (fun _ => True) (fun _ => False) rfl rfl (Ai2 _ _ _ (⟨5, false, -11⟩ : S39)) (fun _ hk_ => hk_.elim) (fun _ _ => trivial) RB.out BB.out BB.out.size (N24.out) ?_; intro v3 w3 hr3 hb3 _ _; obtain ⟨g3, hg3⟩ : ∃ g3, g3 = (tl ++ [(⟨5, false, -11⟩ : S39)] : List S39) := ⟨_, rfl⟩; rw [← hg3] at hr3; have HG3 := zA hg3; clear hg3; obtain ⟨A3, c3, ev3⟩ := Kd.Aa9 hr3; subst ev3; have G3 := zA (LK.fresh hr3 (fun x e => H2.out.lt x e)); have H3 := zA (H2.out.below hb3); have K3 := zA (K2.out.below hb3); have Q3 := zA (Aa3 Q2.out hb3); have B3 := zA (B2.out.trans (hb3.mono B2.out.size)); clear hr3 hb3)
 obtain ⟨w4, hw4⟩ : ∃ w4, World.drew w3 = w4 := ⟨_, rfl⟩
 have b4 : Below w3.heap.size w3 w4 := by rw [← hw4]; exact (Below.refl _ _).drew
 have B4 := zA (B3.out.trans (b4.mono B3.out.size))
 have H4 := zA (H3.out.below b4)
 have HK4 := zA (K3.out.below b4)
 have Q4 := zA (Aa3 Q3.out b4)
 have G4 := zA (G3.out.below b4)
 have KL := HF.out.lab H4.out lb HLB.out
 obtain ⟨er, l, hr⟩ : ∃ er l, labM k.frames lb = (er, l) := ⟨_, _, rfl⟩
 rw [hr] at KL
 have z9 := HK4.out.pc
 have y2 := bc_ Q4.out 2
 have HE : Aa2 (er = 0 ∨ er ≠ 0) := ⟨Decidable.em _⟩
 clear b4 hr
 refine Ab3 (n := 12) (S := fun w' => w'.cell? ⟨kb, 9, none⟩ = some (.pointer (some ⟨g, 0, none⟩)) ∧ w'.cell? ⟨w.heap.size, 2, none⟩ = some (.int .u32 lb)) (ds := []) (bm_ 12 0) (by kernel_rfl) rfl rfl ⟨(by rw [hw4]; exact z9), (by rw [hw4]; exact y2)⟩ (fun hHeld => ?_)
 rw [hw4] at hHeld ⊢
 clear hw4 z9 y2
 refine pz_ 0 51 12 1 ?_
 refine pz_ 1 52 12 3 ?_
 refine pz_ 2 53 12 7 ?_
 refine pz_ 4 55 12 23 ?_
 refine tz_ 3 54 12 31 hHeld ?_
 refine tz_ 5 56 12 63 hHeld ?_
 refine oz_ 6 57 12 127 fun K hK => ?_
 refine gz_ Tryz.func78 #[.pointer (some ⟨g, 0, none⟩), .int .u32 lb] ?_
 with_reducible refine (KL).mono ?_
 rintro e w5 ⟨v5, rfl, hl, hb⟩
 obtain ⟨A5, c5, rfl⟩ := hl.slice
 have L5 := zA hl
 have B5 := zA (B4.out.trans (hb.mono B4.out.size))
 have HB5 := zA hb
 clear hl hb KL
 refine ⟨_, rfl, ?_⟩
 refine hK.out _ _ ⟨HB5.out.kp hHeld.1, HB5.out.kp hHeld.2⟩ (fun hHeld => ?_)
 clear hK K
 refine nz_ ?_
 refine pz_ 7 50 12 255 ?_
 refine pz_ 8 58 12 511 ?_
 refine pz_ 9 59 12 1023 ?_
 refine pz_ 10 8 12 2047 ?_
 refine pz_ 11 9 12 4095 ?_
 refine dz_ ?_
 rcases HE.out with he | he
 rotate_left
 ·have g0 : (er == 0) = false := beq_eq_false_iff_ne.mpr he
  have g1 := bne_iff_ne.mpr he
  clear he
  go_wp2_with fail
  go_ret
  exact ⟨⟨_, rfl⟩, B5.out⟩
 subst he
 have KV := Al3 HG.out (HG.out.la ((HK4.out.below HB5.out).lent Ao2 HX.out.xin.h0 HX.out.xin.r0)) (H4.out.below HB5.out).tab A3 c3 g3 A5 c5 l (G4.out.below HB5.out).reads.2.2 L5.out.reads.2.2 (by rw [HG3.out, List.length_append]; exact TB1.out)
 obtain ⟨b, hb⟩ : ∃ b, b = Az5 X.l0 g3 l := ⟨_, rfl⟩
 rw [← hb] at KV
 have z0 := bc_ (HK4.out.below HB5.out).box 0
 clear hb
 go_wp2_with fail
 refine KV.mono ?_
 rintro e w6 ⟨rfl, hb6⟩
 have B6 := zA (B5.out.trans (hb6.mono B5.out.size))
 clear KV hb6 z0
 cases b
 all_goals
  go_wp2_with fail
  go_ret
  exact ⟨⟨_, rfl⟩, B6.out⟩
set_option maxHeartbeats 4000000 in
theorem Ca3 (kb : Nat) (w : World) (kd : Int) (tg lb : Nat) (hk : kd < 0 ∨ 3 < kd) : Calls Tryz.prog 37 #[.pointer (some ⟨kb, 0, none⟩), .agg #[.int .i64 kd, .int .u32 tg, .int .u32 lb]] w (Bk1 w) := by
 rcases hk with h | h
 ·have g0 : decide (kd < 0) = true := decide_eq_true h
  clear h
  go_enter Tryz.func37, Tryz.ntmps37
  go_wp2_with fail
  go_ret
  exact ⟨⟨_, rfl⟩, bz_⟩
 ·have g0 : decide (kd < 0) = false := decide_eq_false (by omega)
  have g1 := decide_eq_true h
  have g2 := decide_eq_true h
  clear h
  go_enter Tryz.func37, Tryz.ntmps37
  go_wp2_with fail
  go_ret
  exact ⟨⟨_, rfl⟩, bz_⟩
theorem Bk4 (h : St D S g k w) (hF : Fit k f) (hk : KI w1 D S kb g X I w) (hx : XK w1 X I) (hG : GOk X.l0) (kd : Int) (tg lb : Nat) (htg : tg ≤ 4294967295) (hlb : lb ≤ 4294967295) : Calls Tryz.prog 37 #[.pointer (some ⟨kb, 0, none⟩), .agg #[.int .i64 kd, .int .u32 tg, .int .u32 lb]] w (Bk1 w) := by
 by_cases hk0 : kd < 0 ∨ 3 < kd
 ·exact Ca3 kb w kd tg lb hk0
 ·have hc : kd = 0 ∨ kd = 1 ∨ kd = 2 ∨ kd = 3 := by omega
  rcases hc with rfl | rfl | rfl | rfl
  ·exact Cf0 h hF hk hx hG tg lb htg hlb
  ·exact Ce9 h hF hk hx hG tg lb htg hlb
  ·exact Ce8 h hF hk hx hG tg lb htg hlb
  ·exact Ce7 h hF hk hx hG tg lb htg hlb
end
theorem one_C {W : World} {n : Nat} {v : S39} {T : TypeId} (hb : W.heap[n]? = some (.cells #[.int .i64 v.f0, .bool v.f1, .int .i64 v.f2] T (0, 0))) : Kd.C k39 W (some ⟨n, 0, none⟩) 1 [v] := by
 refine ⟨rfl, by simp, fun _ => ⟨_, rfl, fun j p hj => ?_⟩⟩
 obtain ⟨rfl, rfl⟩ : j = 0 ∧ p = v := by
  cases j with
  | zero => simp at hj; exact ⟨rfl, hj.symm⟩
  | succ j => simp at hj
 refine ⟨[.int .i64 p.f0, .bool p.f1, .int .i64 p.f2], rfl, Bq9 _ p, fun i u hu => ?_⟩
 have e : (⟨n, 0, none⟩ : Addr).add (0 * (k39).sz + i) = ⟨n, i, none⟩ := by rw [Nat.zero_mul, Nat.zero_add]; unfold Addr.add; simp; (try (intro h; omega))
 rw [e]
 match i, hu with
 | 0, hu => cases hu; exact (Aa0 hb 0).trans rfl
 | 1, hu => cases hu; exact (Aa0 hb 1).trans rfl
 | 2, hu => cases hu; exact (Aa0 hb 2).trans rfl
theorem VQ.one {b : Nat} (w5 : World) (v : S39) (T : TypeId) (hb : b ≤ w5.heap.size) : VQ b (w5.alloc (.cells #[.int .i64 v.f0, .bool v.f1, .int .i64 v.f2] T)) (.slice (some ⟨w5.heap.size, 0, none⟩) 1 1) [v] :=
 ⟨some ⟨w5.heap.size, 0, none⟩, 1, rfl, Nat.le_refl _, one_C (Aa6 w5 _), fun S hS => Kd.V_mk (Nat.le_refl _) (fun W2 h2 => one_C ((h2 w5.heap.size (fun e => by have := hS _ e; omega) (by rw [World.size_alloc]; omega)).trans (Aa6 w5 _)))⟩
set_option maxHeartbeats 8000000 in
theorem An6 (A0 : Option Addr) (c0 : Nat) (l0 : List S132) (A1 : Option Addr) (c1 : Nat) (l1 : List Int) (A2 : Option Addr) (c2 : Nat) (l2 : List S214) (A3 : Option Addr) (c3 : Nat) (l3 : List S212) (A4 : Option Addr) (c4 : Nat) (l4 : List S292) (A5 : Option Addr) (c5 : Nat) (l5 : List Int) (A6 : Option Addr) (c6 : Nat) (l6 : List S39) (d7 : Int) (A8 : Option Addr) (c8 : Nat) (l8 : List Bool) (t : Int) (v : S39) (w : World) (hx : XIn w A0 c0 l0 A1 c1 l1 A2 c2 l2 A3 c3 l3 A4 c4 l4 A5 c5 l5 A6 c6 l6 d7 A8 c8 l8) (ht : NV64 t) :
  Calls Tryz.prog 25 #[.agg #[.slice A0 l0.length c0, .slice A1 l1.length c1, .slice A2 l2.length c2, .slice A3 l3.length c3, .slice A4 l4.length c4, .slice A5 l5.length c5, .slice A6 l6.length c6, .int .i64 d7, .slice A8 l8.length c8], .agg #[.int .i64 t, .int .i64 v.f0, .bool v.f1, .int .i64 v.f2]] w (FtOwn (btV l0 t v) w) := by
 obtain ⟨W3, hW3⟩ : ∃ W3, W3 = (((w.alloc (.cells #[.slice A0 l0.length c0, .slice A1 l1.length c1, .slice A2 l2.length c2, .slice A3 l3.length c3, .slice A4 l4.length c4, .slice A5 l5.length c5, .slice A6 l6.length c6, .int .i64 d7, .slice A8 l8.length c8] 30)).alloc (.cells #[.int .i64 t, .int .i64 v.f0, .bool v.f1, .int .i64 v.f2] 41)).alloc (.cells #[.int .i64 v.f0, .bool v.f1, .int .i64 v.f2] 39)) := ⟨_, rfl⟩
 have b3 : Below w.heap.size w W3 := by rw [hW3]; exact ((bz_).alloc (by simp) _).alloc (by simp; omega) _
 have B3 := zA b3
 have HX := zA (hx.below b3)
 have HT := zA ht
 have hq0 : W3.heap[w.heap.size]? = some (.cells #[.slice A0 l0.length c0, .slice A1 l1.length c1, .slice A2 l2.length c2, .slice A3 l3.length c3, .slice A4 l4.length c4, .slice A5 l5.length c5, .slice A6 l6.length c6, .int .i64 d7, .slice A8 l8.length c8] 30 (0, 0)) := by rw [hW3]; exact Aa5 (Aa5 (Aa6 w _) _) _
 have hq1 : W3.heap[w.heap.size + 1]? = some (.cells #[.int .i64 t, .int .i64 v.f0, .bool v.f1, .int .i64 v.f2] 41 (0, 0)) := by rw [hW3]; have h_ := Aa5 (Aa6 (w.alloc (.cells #[.slice A0 l0.length c0, .slice A1 l1.length c1, .slice A2 l2.length c2, .slice A3 l3.length c3, .slice A4 l4.length c4, .slice A5 l5.length c5, .slice A6 l6.length c6, .int .i64 d7, .slice A8 l8.length c8] 30)) (.cells #[.int .i64 t, .int .i64 v.f0, .bool v.f1, .int .i64 v.f2] 41)) (.cells #[.int .i64 v.f0, .bool v.f1, .int .i64 v.f2] 39); rw [World.size_alloc] at h_; exact h_
 have HQ := zA (And.intro hq0 hq1)
 have hq2 : W3.heap[w.heap.size + 1 + 1]? = some (.cells #[.int .i64 v.f0, .bool v.f1, .int .i64 v.f2] 39 (0, 0)) := by rw [hW3]; have h_ := Aa6 ((w.alloc (.cells #[.slice A0 l0.length c0, .slice A1 l1.length c1, .slice A2 l2.length c2, .slice A3 l3.length c3, .slice A4 l4.length c4, .slice A5 l5.length c5, .slice A6 l6.length c6, .int .i64 d7, .slice A8 l8.length c8] 30)).alloc (.cells #[.int .i64 t, .int .i64 v.f0, .bool v.f1, .int .i64 v.f2] 41)) (.cells #[.int .i64 v.f0, .bool v.f1, .int .i64 v.f2] 39); rw [World.size_alloc, World.size_alloc] at h_; exact h_
 have HQ2 := zA hq2
 clear hq2
 clear b3 hx ht hq0 hq1
 by_cases h0 : 0 ≤ t
 ·have EV : btV l0 t v = ftV l0 t := by unfold btV; rw [if_pos h0]
  rw [EV]
  clear EV
  have K := Ap1 A0 c0 l0 A1 c1 l1 A2 c2 l2 A3 c3 l3 A4 c4 l4 A5 c5 l5 A6 c6 l6 d7 A8 c8 l8 t W3 HX.out HT.out
  go_enter Tryz.func25, Tryz.ntmps25
  go_wp2_with fail
  rw [← hW3]
  clear hW3
  refine K.mono ?_
  rintro e w4 ⟨v1, v2, rfl, R1, R2, hb⟩
  have B4 := zA (B3.out.trans (hb.mono B3.out.size))
  have RR := zA (And.intro R1 R2)
  clear hb K R1 R2
  go_wp2_with fail
  refine bodyPost_ret (results_tmp3 rfl _ _ _) rfl ?_
  exact ⟨_, _, rfl, RR.out.1.down B3.out.size, RR.out.2.down B3.out.size, B4.out⟩
 have h0' : t < 0 := by omega
 by_cases z0 : v.f0 = 0
 ·have EV : btV l0 t v = ([], [], 0) := by unfold btV; rw [if_neg h0, if_pos z0]
  rw [EV]
  have ez : (v.f0 == 0) = true := by simp [z0]
  clear EV z0 h0
  go_enter Tryz.func25, Tryz.ntmps25
  go_wp2_with fail
  rw [← hW3]
  clear hW3
  refine bodyPost_ret (results_tmp3 rfl _ _ _) rfl ?_
  exact ⟨_, _, rfl, VQ.nil _ _, VQ.nil _ _, B3.out⟩
 have ez : (v.f0 == 0) = false := by simp [z0]
 have VP := HX.out.bulk
 have u0 : W3.cell? ⟨w.heap.size + 1 + 1, 0, none⟩ = some (.int .i64 v.f0) := (Aa0 HQ2.out 0).trans rfl
 have u2 : W3.cell? ⟨w.heap.size + 1 + 1, 2, none⟩ = some (.int .i64 v.f2) := (Aa0 HQ2.out 2).trans rfl
 have ux : W3.cell? ⟨w.heap.size, 0, none⟩ = some (.slice A0 l0.length c0) := (Aa0 HQ.out.1 0).trans rfl
 have HB := zA VP
 clear VP
 by_cases h5 : v.f0 = 5
 ·have e5 : (v.f0 == 5) = true := by simp [h5]
  by_cases h12 : v.f2 < -12
  ·have EV : btV l0 t v = ([], [], 150) := by unfold btV; rw [if_neg h0, if_neg z0, if_pos ⟨h5, .inl h12⟩]
   rw [EV]
   have e12 : decide (v.f2 < -12) = true := by simp [h12]
   clear EV z0 h0 h5
   go_enter Tryz.func25, Tryz.ntmps25
   go_wp2_with fail
   rw [← hW3]
   clear hW3
   refine Ab3 (n := 17) (S := fun w' => w'.cell? ⟨w.heap.size + 1 + 1, 0, none⟩ = some (.int .i64 v.f0) ∧ w'.cell? ⟨w.heap.size + 1 + 1, 2, none⟩ = some (.int .i64 v.f2) ∧ w'.cell? ⟨w.heap.size, 0, none⟩ = some (.slice A0 l0.length c0)) (ds := []) (bm_ 17 0) (by kernel_rfl) rfl rfl ⟨u0, u2, ux⟩ (fun hHeld => ?_)
   have BD : Aa2 (Below w.heap.size w W3.drew) := ⟨B3.out.drew⟩
   have HX5 : Aa2 (XIn W3.drew A0 c0 l0 A1 c1 l1 A2 c2 l2 A3 c3 l3 A4 c4 l4 A5 c5 l5 A6 c6 l6 d7 A8 c8 l8) := ⟨HX.out.below (Below.refl _ _).drew⟩
   have HQ5 : Aa2 (W3.drew.heap[w.heap.size + 1 + 1]? = some (.cells #[.int .i64 v.f0, .bool v.f1, .int .i64 v.f2] 39 (0, 0))) := ⟨HQ2.out⟩
   replace u0 : W3.drew.cell? _ = _ := u0
   replace u2 : W3.drew.cell? _ = _ := u2
   replace ux : W3.drew.cell? _ = _ := ux
   generalize W3.drew = w5 at BD HX5 HQ5 u0 u2 ux hHeld ⊢
   refine pz_ 0 26 17 1 ?_
   refine tz_ 1 27 17 3 hHeld ?_
   refine pz_ 2 28 17 7 ?_
   refine pz_ 3 29 17 15 ?_
   refine pz_ 4 30 17 31 ?_
   refine tz_ 5 31 17 63 hHeld ?_
   refine pz_ 6 32 17 127 ?_
   refine pz_ 7 33 17 255 ?_
   refine uz_ 8 34 17 511 ?_
   refine uz_ 9 35 17 1023 ?_
   refine uz_ 10 36 17 2047 ?_
   refine uz_ 11 37 17 4095 ?_
   refine uz_ 12 38 17 8191 ?_
   refine uz_ 13 39 17 16383 ?_
   refine pz_ 14 40 17 32767 ?_
   refine pz_ 15 41 17 65535 ?_
   refine pz_ 16 25 17 131071 ?_
   refine dz_ ?_
   clear u0 u2 ux hHeld
   go_wp2_with fail
   refine bodyPost_ret (results_tmp3 rfl _ _ _) rfl ?_
   exact ⟨_, _, rfl, VQ.nil _ _, VQ.nil _ _, BD.out⟩
  have e12 : decide (v.f2 < -12) = false := by simp; omega
  by_cases hc : (Af1 l0 : Int) ≤ v.f2
  ·have EV : btV l0 t v = ([], [], 150) := by unfold btV; rw [if_neg h0, if_neg z0, if_pos ⟨h5, .inr hc⟩]
   rw [EV]
   have ec : decide ((Af1 l0 : Int) ≤ v.f2) = true := by simp [hc]
   clear EV z0 h0 h5 h12
   go_enter Tryz.func25, Tryz.ntmps25
   go_wp2_with fail
   rw [← hW3]
   clear hW3
   refine Ab3 (n := 17) (S := fun w' => w'.cell? ⟨w.heap.size + 1 + 1, 0, none⟩ = some (.int .i64 v.f0) ∧ w'.cell? ⟨w.heap.size + 1 + 1, 2, none⟩ = some (.int .i64 v.f2) ∧ w'.cell? ⟨w.heap.size, 0, none⟩ = some (.slice A0 l0.length c0)) (ds := []) (bm_ 17 0) (by kernel_rfl) rfl rfl ⟨u0, u2, ux⟩ (fun hHeld => ?_)
   have BD : Aa2 (Below w.heap.size w W3.drew) := ⟨B3.out.drew⟩
   have HX5 : Aa2 (XIn W3.drew A0 c0 l0 A1 c1 l1 A2 c2 l2 A3 c3 l3 A4 c4 l4 A5 c5 l5 A6 c6 l6 d7 A8 c8 l8) := ⟨HX.out.below (Below.refl _ _).drew⟩
   have HQ5 : Aa2 (W3.drew.heap[w.heap.size + 1 + 1]? = some (.cells #[.int .i64 v.f0, .bool v.f1, .int .i64 v.f2] 39 (0, 0))) := ⟨HQ2.out⟩
   replace u0 : W3.drew.cell? _ = _ := u0
   replace u2 : W3.drew.cell? _ = _ := u2
   replace ux : W3.drew.cell? _ = _ := ux
   generalize W3.drew = w5 at BD HX5 HQ5 u0 u2 ux hHeld ⊢
   refine pz_ 0 26 17 1 ?_
   refine tz_ 1 27 17 3 hHeld ?_
   refine pz_ 2 28 17 7 ?_
   refine pz_ 3 29 17 15 ?_
   refine pz_ 4 30 17 31 ?_
   refine tz_ 5 31 17 63 hHeld ?_
   refine pz_ 6 32 17 127 ?_
   refine pz_ 7 33 17 255 ?_
   refine pz_ 8 34 17 511 ?_
   refine pz_ 10 36 17 1535 ?_
   refine tz_ 9 35 17 2047 hHeld ?_
   refine tz_ 11 37 17 4095 hHeld ?_
   refine oz_ 12 38 17 8191 fun K hK => ?_
   refine gz_ Tryz.func60 #[.slice A0 l0.length c0] ?_
   with_reducible refine (types_Count.calls _ A0 c0 l0 _ w5 (HX5.out.r0) HX5.out.h0 (countP l0 HX5.out.bulk)).mono ?_
   rintro e w6 ⟨rfl, hb6⟩
   have B6 := zA (BD.out.trans (hb6.mono BD.out.size))
   have Q6 := zA (Aa3 HQ5.out hb6)
   refine ⟨_, rfl, ?_⟩
   refine hK.out _ _ ⟨(hb6.cell (World.block_lt_of_cell? w5 _ u0)).trans u0, (hb6.cell (World.block_lt_of_cell? w5 _ u2)).trans u2, (hb6.cell (World.block_lt_of_cell? w5 _ ux)).trans ux⟩ (fun hHeld => ?_)
   clear hK K
   refine nz_ ?_
   refine pz_ 13 39 17 16383 ?_
   refine pz_ 14 40 17 32767 ?_
   refine pz_ 15 41 17 65535 ?_
   refine pz_ 16 25 17 131071 ?_
   refine dz_ ?_
   clear u0 u2 ux hHeld
   go_wp2_with fail
   refine bodyPost_ret (results_tmp3 rfl _ _ _) rfl ?_
   exact ⟨_, _, rfl, VQ.nil _ _, VQ.nil _ _, B6.out⟩
  have EV : btV l0 t v = ([], [v], 0) := by unfold btV; rw [if_neg h0, if_neg z0, if_neg (by rintro ⟨_, h | h⟩; (· exact h12 h); (· exact hc h))]
  rw [EV]
  have ec : decide ((Af1 l0 : Int) ≤ v.f2) = false := by simp; omega
  clear EV z0 h0 h5 h12 hc
  go_enter Tryz.func25, Tryz.ntmps25
  go_wp2_with fail
  rw [← hW3]
  clear hW3
  refine Ab3 (n := 17) (S := fun w' => w'.cell? ⟨w.heap.size + 1 + 1, 0, none⟩ = some (.int .i64 v.f0) ∧ w'.cell? ⟨w.heap.size + 1 + 1, 2, none⟩ = some (.int .i64 v.f2) ∧ w'.cell? ⟨w.heap.size, 0, none⟩ = some (.slice A0 l0.length c0)) (ds := []) (bm_ 17 0) (by kernel_rfl) rfl rfl ⟨u0, u2, ux⟩ (fun hHeld => ?_)
  have BD : Aa2 (Below w.heap.size w W3.drew) := ⟨B3.out.drew⟩
  have HX5 : Aa2 (XIn W3.drew A0 c0 l0 A1 c1 l1 A2 c2 l2 A3 c3 l3 A4 c4 l4 A5 c5 l5 A6 c6 l6 d7 A8 c8 l8) := ⟨HX.out.below (Below.refl _ _).drew⟩
  have HQ5 : Aa2 (W3.drew.heap[w.heap.size + 1 + 1]? = some (.cells #[.int .i64 v.f0, .bool v.f1, .int .i64 v.f2] 39 (0, 0))) := ⟨HQ2.out⟩
  replace u0 : W3.drew.cell? _ = _ := u0
  replace u2 : W3.drew.cell? _ = _ := u2
  replace ux : W3.drew.cell? _ = _ := ux
  generalize W3.drew = w5 at BD HX5 HQ5 u0 u2 ux hHeld ⊢
  refine pz_ 0 26 17 1 ?_
  refine tz_ 1 27 17 3 hHeld ?_
  refine pz_ 2 28 17 7 ?_
  refine pz_ 3 29 17 15 ?_
  refine pz_ 4 30 17 31 ?_
  refine tz_ 5 31 17 63 hHeld ?_
  refine pz_ 6 32 17 127 ?_
  refine pz_ 7 33 17 255 ?_
  refine pz_ 8 34 17 511 ?_
  refine pz_ 10 36 17 1535 ?_
  refine tz_ 9 35 17 2047 hHeld ?_
  refine tz_ 11 37 17 4095 hHeld ?_
  refine oz_ 12 38 17 8191 fun K hK => ?_
  refine gz_ Tryz.func60 #[.slice A0 l0.length c0] ?_
  with_reducible refine (types_Count.calls _ A0 c0 l0 _ w5 (HX5.out.r0) HX5.out.h0 (countP l0 HX5.out.bulk)).mono ?_
  rintro e w6 ⟨rfl, hb6⟩
  have B6 := zA (BD.out.trans (hb6.mono BD.out.size))
  have Q6 := zA (Aa3 HQ5.out hb6)
  refine ⟨_, rfl, ?_⟩
  refine hK.out _ _ ⟨(hb6.cell (World.block_lt_of_cell? w5 _ u0)).trans u0, (hb6.cell (World.block_lt_of_cell? w5 _ u2)).trans u2, (hb6.cell (World.block_lt_of_cell? w5 _ ux)).trans ux⟩ (fun hHeld => ?_)
  clear hK K
  refine nz_ ?_
  refine pz_ 13 39 17 16383 ?_
  refine pz_ 14 40 17 32767 ?_
  refine pz_ 15 41 17 65535 ?_
  refine pz_ 16 25 17 131071 ?_
  refine dz_ ?_
  clear u0 u2 ux hHeld
  have k0 : w6.cell? ⟨w.heap.size + 1 + 1, 0, none⟩ = some (.int .i64 v.f0) := (Aa0 Q6.out 0).trans rfl
  have k1 : w6.cell? ⟨w.heap.size + 1 + 1, 1, none⟩ = some (.bool v.f1) := (Aa0 Q6.out 1).trans rfl
  have k2 : w6.cell? ⟨w.heap.size + 1 + 1, 2, none⟩ = some (.int .i64 v.f2) := (Aa0 Q6.out 2).trans rfl
  go_wp2_with fail
  have hBD := BD
  clear BD hBD
  refine Ab3 (n := 5) (S := fun w' => w'.cell? ⟨w.heap.size + 1 + 1, 0, none⟩ = some (.int .i64 v.f0) ∧ w'.cell? ⟨w.heap.size + 1 + 1, 1, none⟩ = some (.bool v.f1) ∧ w'.cell? ⟨w.heap.size + 1 + 1, 2, none⟩ = some (.int .i64 v.f2)) (ds := []) (bm_ 5 0) (by kernel_rfl) rfl rfl ⟨k0, k1, k2⟩ (fun hHeld => ?_)
  have BD : Aa2 (Below w.heap.size w w6.drew) := ⟨B6.out.drew⟩
  replace k0 : w6.drew.cell? _ = _ := k0
  replace k1 : w6.drew.cell? _ = _ := k1
  replace k2 : w6.drew.cell? _ = _ := k2
  generalize w6.drew = w8 at BD k0 k1 k2 hHeld ⊢
  refine pz_ 2 4 5 4 ?_
  refine tz_ 0 42 5 5 hHeld ?_
  refine oz_ 1 43 5 7 fun K hK => ?_
  refine vz_ ?_
  refine hK.out _ _ ⟨((bz_).cell (World.block_lt_of_cell? w8 _ k0)).trans k0, ((bz_).cell (World.block_lt_of_cell? w8 _ k1)).trans k1, ((bz_).cell (World.block_lt_of_cell? w8 _ k2)).trans k2⟩ (fun hHeld => ?_)
  clear hK K
  refine nz_ ?_
  refine pz_ 3 5 5 15 ?_
  refine pz_ 4 6 5 31 ?_
  refine dz_ ?_
  go_wp2_with fail
  refine bodyPost_ret (results_tmp3 rfl _ _ _) rfl ?_
  exact ⟨_, _, rfl, VQ.nil _ _, VQ.one w8 v _ BD.out.size, BD.out.alloc BD.out.size _⟩
 ·have e5 : (v.f0 == 5) = false := by simp [h5]
  have EV : btV l0 t v = ([], [v], 0) := by unfold btV; rw [if_neg h0, if_neg z0, if_neg (fun h => h5 h.1)]
  rw [EV]
  clear EV z0 h0 h5
  go_enter Tryz.func25, Tryz.ntmps25
  go_wp2_with fail
  rw [← hW3]
  clear hW3
  refine Ab3 (n := 17) (S := fun w' => w'.cell? ⟨w.heap.size + 1 + 1, 0, none⟩ = some (.int .i64 v.f0) ∧ w'.cell? ⟨w.heap.size + 1 + 1, 2, none⟩ = some (.int .i64 v.f2) ∧ w'.cell? ⟨w.heap.size, 0, none⟩ = some (.slice A0 l0.length c0)) (ds := []) (bm_ 17 0) (by kernel_rfl) rfl rfl ⟨u0, u2, ux⟩ (fun hHeld => ?_)
  have BD : Aa2 (Below w.heap.size w W3.drew) := ⟨B3.out.drew⟩
  have HX5 : Aa2 (XIn W3.drew A0 c0 l0 A1 c1 l1 A2 c2 l2 A3 c3 l3 A4 c4 l4 A5 c5 l5 A6 c6 l6 d7 A8 c8 l8) := ⟨HX.out.below (Below.refl _ _).drew⟩
  have HQ5 : Aa2 (W3.drew.heap[w.heap.size + 1 + 1]? = some (.cells #[.int .i64 v.f0, .bool v.f1, .int .i64 v.f2] 39 (0, 0))) := ⟨HQ2.out⟩
  replace u0 : W3.drew.cell? _ = _ := u0
  replace u2 : W3.drew.cell? _ = _ := u2
  replace ux : W3.drew.cell? _ = _ := ux
  generalize W3.drew = w5 at BD HX5 HQ5 u0 u2 ux hHeld ⊢
  refine pz_ 0 26 17 1 ?_
  refine tz_ 1 27 17 3 hHeld ?_
  refine pz_ 2 28 17 7 ?_
  refine pz_ 3 29 17 15 ?_
  refine uz_ 4 30 17 31 ?_
  refine uz_ 5 31 17 63 ?_
  refine uz_ 6 32 17 127 ?_
  refine uz_ 7 33 17 255 ?_
  refine uz_ 8 34 17 511 ?_
  refine uz_ 9 35 17 1023 ?_
  refine uz_ 10 36 17 2047 ?_
  refine uz_ 11 37 17 4095 ?_
  refine uz_ 12 38 17 8191 ?_
  refine uz_ 13 39 17 16383 ?_
  refine uz_ 14 40 17 32767 ?_
  refine pz_ 15 41 17 65535 ?_
  refine pz_ 16 25 17 131071 ?_
  refine dz_ ?_
  clear u0 u2 ux hHeld
  have k0 : w5.cell? ⟨w.heap.size + 1 + 1, 0, none⟩ = some (.int .i64 v.f0) := (Aa0 HQ5.out 0).trans rfl
  have k1 : w5.cell? ⟨w.heap.size + 1 + 1, 1, none⟩ = some (.bool v.f1) := (Aa0 HQ5.out 1).trans rfl
  have k2 : w5.cell? ⟨w.heap.size + 1 + 1, 2, none⟩ = some (.int .i64 v.f2) := (Aa0 HQ5.out 2).trans rfl
  go_wp2_with fail
  have BE := zA BD.out
  clear BD
  refine Ab3 (n := 5) (S := fun w' => w'.cell? ⟨w.heap.size + 1 + 1, 0, none⟩ = some (.int .i64 v.f0) ∧ w'.cell? ⟨w.heap.size + 1 + 1, 1, none⟩ = some (.bool v.f1) ∧ w'.cell? ⟨w.heap.size + 1 + 1, 2, none⟩ = some (.int .i64 v.f2)) (ds := []) (bm_ 5 0) (by kernel_rfl) rfl rfl ⟨k0, k1, k2⟩ (fun hHeld => ?_)
  have BD : Aa2 (Below w.heap.size w w5.drew) := ⟨BE.out.drew⟩
  replace k0 : w5.drew.cell? _ = _ := k0
  replace k1 : w5.drew.cell? _ = _ := k1
  replace k2 : w5.drew.cell? _ = _ := k2
  generalize w5.drew = w8 at BD k0 k1 k2 hHeld ⊢
  refine pz_ 2 4 5 4 ?_
  refine tz_ 0 42 5 5 hHeld ?_
  refine oz_ 1 43 5 7 fun K hK => ?_
  refine vz_ ?_
  refine hK.out _ _ ⟨((bz_).cell (World.block_lt_of_cell? w8 _ k0)).trans k0, ((bz_).cell (World.block_lt_of_cell? w8 _ k1)).trans k1, ((bz_).cell (World.block_lt_of_cell? w8 _ k2)).trans k2⟩ (fun hHeld => ?_)
  clear hK K
  refine nz_ ?_
  refine pz_ 3 5 5 15 ?_
  refine pz_ 4 6 5 31 ?_
  refine dz_ ?_
  go_wp2_with fail
  refine bodyPost_ret (results_tmp3 rfl _ _ _) rfl ?_
  exact ⟨_, _, rfl, VQ.nil _ _, VQ.one w8 v _ BD.out.size, BD.out.alloc BD.out.size _⟩
theorem FtOwn.lent {r : List S39 × List S39 × Int} {w w' : World} {e : Ending} (h : FtOwn r w e w') : ∃ A1 c1 A2 c2, e = .returned (.tuple #[.slice A1 r.1.length c1, .slice A2 r.2.1.length c2, .int .i64 r.2.2]) ∧ (∀ F : Nat → Prop, (∀ x, F x → x < w.heap.size) → LK k39 F w' (.slice A1 r.1.length c1) r.1 ∧ LK k39 F w' (.slice A2 r.2.1.length c2) r.2.1) ∧ Below w.heap.size w w' := by
 obtain ⟨v1, v2, e1, h1, h2, h3⟩ := h
 have k1 := fun (F : Nat → Prop) (hF : ∀ x, F x → x < w.heap.size) => VQ.lk h1 hF
 have k2 := fun (F : Nat → Prop) (hF : ∀ x, F x → x < w.heap.size) => VQ.lk h2 hF
 obtain ⟨A1, c1, rfl, _⟩ := h1
 obtain ⟨A2, c2, rfl, _⟩ := h2
 exact ⟨A1, c1, A2, c2, e1, fun F hF => ⟨k1 F hF, k2 F hF⟩, h3⟩
theorem ftV_len2 (l : List S132) (hb : vL l ≤ 1048576) (n : Int) : (ftV l n).1.length ≤ 1048576 ∧ (ftV l n).2.1.length ≤ 1048576 := by
 unfold ftV
 cases h : atN l n with
 | none => simp
 | some s =>
  have h' : atV l n = some s := by unfold atN at h; split at h; (· cases h); exact h
  obtain ⟨r, h1, h2⟩ := Bw9 l n s h'
  have h3 := Ap0 vS r.f0 s h2
  have h4 := Ap0 (fun r => vG r.f0 + 1) l r h1
  unfold vL at hb
  unfold vG at h4 hb
  have h5 : s.f1.length + s.f2.f1.length + s.f2.f2.length + s.f2.f3.length + 1 = vS s := rfl
  dsimp only
  split
  ·dsimp only; omega
  ·simp
theorem Bb3 (l : List S132) (hb : vL l ≤ 1048576) (t : Int) (v : S39) : (btV l t v).1.length ≤ 1048576 ∧ (btV l t v).2.1.length ≤ 1048576 := by
 unfold btV
 split
 ·exact ftV_len2 l hb t
 ·split
  ·simp
  ·split
   ·simp
   ·simp
section
variable {w1 w w' : World} {D S S' : Nat → Prop} {kb g : Nat} {X : CX} {I : IX} {k k' : Chk} {f : Fr} {t : Int} {v : S39}
def Bg1 (D S : Nat → Prop) (g : Nat) (X : CX) (op t : Int) (v : S39) (k : Chk) (f : Fr) (w : World) (e : Ending) (w' : World) : Prop :=
 ∃ (er : Int) (k1 : Chk) (S' : Nat → Prop), e = .returned (.int .i64 er) ∧ Kst D S g w k1 S' w' ∧ (er = 0 → ∃ o' : List S39, (btV X.l0 t v).2.2 = 0 ∧ Al5 k.l f.height f.dead (btV X.l0 t v).1 k.ops = (0, o') ∧ k1 = { k with ops := o' ++ (btV X.l0 t v).1, frames := k.frames ++ [⟨op, (btV X.l0 t v).1, (btV X.l0 t v).2.1, o'.length, k.sets, false⟩] })
structure IB (I : IX) (t : Int) (v : S39) : Prop where
 e7 : I.v7 = .int .i64 t
 e8 : I.v8 = .int .i64 v.f0
 e9 : I.v9 = .bool v.f1
 e10 : I.v10 = .int .i64 v.f2
 t64 : NV64 t
set_option maxHeartbeats 8000000 in
theorem Ca4 (h : St D S g k w) (hF : Fit k f) (hx : XK w1 X I) (hb : Below w1.heap.size w1 w) (nw : ∀ x, S x ∨ D x → w1.heap.size ≤ x) (hG : GOk X.l0) (hs : k.sets.length ≤ 2097152) (hi : IB I t v) (n2 : I.op ≠ 2) (n3 : I.op ≠ 3) (n4 : I.op ≠ 4) (n31 : I.op ≠ 31) : Calls Tryz.prog 11 #[.agg #[.slice X.A0 X.l0.length X.c0, .slice X.A1 X.l1.length X.c1, .slice X.A2 X.l2.length X.c2, .slice X.A3 X.l3.length X.c3, .slice X.A4 X.l4.length X.c4, .slice X.A5 X.l5.length X.c5, .slice X.A6 X.l6.length X.c6, .int .i64 X.d7, .slice X.A8 X.l8.length X.c8], .pointer (some ⟨g, 0, none⟩), .agg #[.int .i64 I.op, .int .u32 I.x, .int .u32 I.y, I.v3, I.v4, I.v5, I.v6, I.v7, I.v8, I.v9, I.v10, I.v11, I.v12, I.v13, .slice I.AL I.ls.length I.cL, I.v15, I.v16]] w (Bg1 D S g X I.op t v k f w) := by
 rw [hi.e7, hi.e8, hi.e9, hi.e10]
 obtain ⟨W, hW⟩ : ∃ W, W = (w.alloc (.cells #[.slice X.A0 X.l0.length X.c0, .slice X.A1 X.l1.length X.c1, .slice X.A2 X.l2.length X.c2, .slice X.A3 X.l3.length X.c3, .slice X.A4 X.l4.length X.c4, .slice X.A5 X.l5.length X.c5, .slice X.A6 X.l6.length X.c6, .int .i64 X.d7, .slice X.A8 X.l8.length X.c8] 30)).alloc (.cells #[.int .i64 I.op, .int .u32 I.x, .int .u32 I.y, I.v3, I.v4, I.v5, I.v6, .int .i64 t, .int .i64 v.f0, .bool v.f1, .int .i64 v.f2, I.v11, I.v12, I.v13, .slice I.AL I.ls.length I.cL, I.v15, I.v16] 46) := ⟨_, rfl⟩
 have b1 : Below w.heap.size w W := by rw [hW]; exact (bz_).alloc (by simp) _
 have hq0 : W.heap[w.heap.size]? = some (.cells #[.slice X.A0 X.l0.length X.c0, .slice X.A1 X.l1.length X.c1, .slice X.A2 X.l2.length X.c2, .slice X.A3 X.l3.length X.c3, .slice X.A4 X.l4.length X.c4, .slice X.A5 X.l5.length X.c5, .slice X.A6 X.l6.length X.c6, .int .i64 X.d7, .slice X.A8 X.l8.length X.c8] 30 (0, 0)) := by rw [hW]; exact Aa5 (Aa6 w _) _
 have hq1 : W.heap[w.heap.size + 1]? = some (.cells #[.int .i64 I.op, .int .u32 I.x, .int .u32 I.y, I.v3, I.v4, I.v5, I.v6, .int .i64 t, .int .i64 v.f0, .bool v.f1, .int .i64 v.f2, I.v11, I.v12, I.v13, .slice I.AL I.ls.length I.cL, I.v15, I.v16] 46 (0, 0)) := by rw [hW]; have h_ := Aa6 (w.alloc (.cells #[.slice X.A0 X.l0.length X.c0, .slice X.A1 X.l1.length X.c1, .slice X.A2 X.l2.length X.c2, .slice X.A3 X.l3.length X.c3, .slice X.A4 X.l4.length X.c4, .slice X.A5 X.l5.length X.c5, .slice X.A6 X.l6.length X.c6, .int .i64 X.d7, .slice X.A8 X.l8.length X.c8] 30)) (.cells #[.int .i64 I.op, .int .u32 I.x, .int .u32 I.y, I.v3, I.v4, I.v5, I.v6, .int .i64 t, .int .i64 v.f0, .bool v.f1, .int .i64 v.f2, I.v11, I.v12, I.v13, .slice I.AL I.ls.length I.cL, I.v15, I.v16] 46); rw [World.size_alloc] at h_; exact h_
 have HQ := zA (And.intro hq0 hq1)
 have HF := zA hF
 have HX := zA hx
 have HG := zA hG
 have B1 := zA b1
 have BW := zA hb
 have NW := zA nw
 have HS := zA hs
 have HT := zA hi.t64
 have HLT : Aa2 (∀ x, S x ∨ D x → x < w.heap.size) := ⟨h.lt⟩
 have KN := Ao9 (h.below b1) hF
 obtain ⟨op, hop⟩ : ∃ op, op = I.op := ⟨_, rfl⟩
 have g2 : (I.op == 2) = false := beq_eq_false_iff_ne.mpr n2
 have g3 : (I.op == 3) = false := beq_eq_false_iff_ne.mpr n3
 have g4 : (I.op == 4) = false := beq_eq_false_iff_ne.mpr n4
 have g31 : (I.op == 31) = false := beq_eq_false_iff_ne.mpr n31
 clear h hF hx hb nw hG hs hi b1 hq0 hq1 n2 n3 n4 n31 hop op
 go_enter Tryz.func11, Tryz.ntmps11
 go_wp2_with fail
 rw [← hW]
 clear hW
 refine KN.mono ?_
 rintro e w2 ⟨rfl, S2, q2⟩
 have Q2 := zA q2
 have HQ2 := zA (And.intro (q2.chg.blk HQ.out.1 (fun e => by have := HLT.out _ (.inl e); omega)) (q2.chg.blk HQ.out.2 (fun e => by have := HLT.out _ (.inl e); omega)))
 have z0 : w2.cell? ⟨w.heap.size + 1, 0, none⟩ = some (.int .i64 I.op) := (Aa0 HQ2.out.2 0).trans rfl
 clear KN q2
 go_wp2_with fail
 go_ret
 exact ⟨6, k, S2, rfl, Q2.out.ahead B1.out, fun e => absurd e (by decide)⟩
set_option maxHeartbeats 8000000 in
theorem vOpen_2 (h : St D S g k w) (hF : Fit k f) (hx : XK w1 X I) (hb : Below w1.heap.size w1 w) (nw : ∀ x, S x ∨ D x → w1.heap.size ≤ x) (hG : GOk X.l0) (hs : k.sets.length ≤ 2097152) (hi : IB I t v) (e : I.op = 2) : Calls Tryz.prog 11 #[.agg #[.slice X.A0 X.l0.length X.c0, .slice X.A1 X.l1.length X.c1, .slice X.A2 X.l2.length X.c2, .slice X.A3 X.l3.length X.c3, .slice X.A4 X.l4.length X.c4, .slice X.A5 X.l5.length X.c5, .slice X.A6 X.l6.length X.c6, .int .i64 X.d7, .slice X.A8 X.l8.length X.c8], .pointer (some ⟨g, 0, none⟩), .agg #[.int .i64 I.op, .int .u32 I.x, .int .u32 I.y, I.v3, I.v4, I.v5, I.v6, I.v7, I.v8, I.v9, I.v10, I.v11, I.v12, I.v13, .slice I.AL I.ls.length I.cL, I.v15, I.v16]] w (Bg1 D S g X I.op t v k f w) := by
 rw [hi.e7, hi.e8, hi.e9, hi.e10]
 obtain ⟨W, hW⟩ : ∃ W, W = (w.alloc (.cells #[.slice X.A0 X.l0.length X.c0, .slice X.A1 X.l1.length X.c1, .slice X.A2 X.l2.length X.c2, .slice X.A3 X.l3.length X.c3, .slice X.A4 X.l4.length X.c4, .slice X.A5 X.l5.length X.c5, .slice X.A6 X.l6.length X.c6, .int .i64 X.d7, .slice X.A8 X.l8.length X.c8] 30)).alloc (.cells #[.int .i64 I.op, .int .u32 I.x, .int .u32 I.y, I.v3, I.v4, I.v5, I.v6, .int .i64 t, .int .i64 v.f0, .bool v.f1, .int .i64 v.f2, I.v11, I.v12, I.v13, .slice I.AL I.ls.length I.cL, I.v15, I.v16] 46) := ⟨_, rfl⟩
 have b1 : Below w.heap.size w W := by rw [hW]; exact (bz_).alloc (by simp) _
 have hq0 : W.heap[w.heap.size]? = some (.cells #[.slice X.A0 X.l0.length X.c0, .slice X.A1 X.l1.length X.c1, .slice X.A2 X.l2.length X.c2, .slice X.A3 X.l3.length X.c3, .slice X.A4 X.l4.length X.c4, .slice X.A5 X.l5.length X.c5, .slice X.A6 X.l6.length X.c6, .int .i64 X.d7, .slice X.A8 X.l8.length X.c8] 30 (0, 0)) := by rw [hW]; exact Aa5 (Aa6 w _) _
 have hq1 : W.heap[w.heap.size + 1]? = some (.cells #[.int .i64 I.op, .int .u32 I.x, .int .u32 I.y, I.v3, I.v4, I.v5, I.v6, .int .i64 t, .int .i64 v.f0, .bool v.f1, .int .i64 v.f2, I.v11, I.v12, I.v13, .slice I.AL I.ls.length I.cL, I.v15, I.v16] 46 (0, 0)) := by rw [hW]; have h_ := Aa6 (w.alloc (.cells #[.slice X.A0 X.l0.length X.c0, .slice X.A1 X.l1.length X.c1, .slice X.A2 X.l2.length X.c2, .slice X.A3 X.l3.length X.c3, .slice X.A4 X.l4.length X.c4, .slice X.A5 X.l5.length X.c5, .slice X.A6 X.l6.length X.c6, .int .i64 X.d7, .slice X.A8 X.l8.length X.c8] 30)) (.cells #[.int .i64 I.op, .int .u32 I.x, .int .u32 I.y, I.v3, I.v4, I.v5, I.v6, .int .i64 t, .int .i64 v.f0, .bool v.f1, .int .i64 v.f2, I.v11, I.v12, I.v13, .slice I.AL I.ls.length I.cL, I.v15, I.v16] 46); rw [World.size_alloc] at h_; exact h_
 have HQ := zA (And.intro hq0 hq1)
 have HF := zA hF
 have HX := zA hx
 have HG := zA hG
 have B1 := zA b1
 have BW := zA hb
 have NW := zA nw
 have HS := zA hs
 have HT := zA hi.t64
 have HLT : Aa2 (∀ x, S x ∨ D x → x < w.heap.size) := ⟨h.lt⟩
 have KN := Ao9 (h.below b1) hF
 obtain ⟨op, hop⟩ : ∃ op, op = I.op := ⟨_, rfl⟩
 have g2 : (I.op == 2) = true := by rw [e]; rfl
 have g3 : (I.op == 3) = false := by rw [e]; rfl
 have g31 : (I.op == 31) = false := by rw [e]; rfl
 have g4 : (I.op != 4) = true := by rw [e]; rfl
 clear h hF hx hb nw hG hs hi b1 hq0 hq1 e hop op
 go_enter Tryz.func11, Tryz.ntmps11
 go_wp2_with fail
 rw [← hW]
 clear hW
 refine KN.mono ?_
 rintro e w2 ⟨rfl, S2, q2⟩
 have Q2 := zA q2
 have HQ2 := zA (And.intro (q2.chg.blk HQ.out.1 (fun e => by have := HLT.out _ (.inl e); omega)) (q2.chg.blk HQ.out.2 (fun e => by have := HLT.out _ (.inl e); omega)))
 have z0 : w2.cell? ⟨w.heap.size + 1, 0, none⟩ = some (.int .i64 I.op) := (Aa0 HQ2.out.2 0).trans rfl
 clear KN q2
 have x0 : w2.cell? ⟨w.heap.size, 0, none⟩ = some (.slice X.A0 X.l0.length X.c0) := (Aa0 HQ2.out.1 0).trans rfl
 have x1 : w2.cell? ⟨w.heap.size, 1, none⟩ = some (.slice X.A1 X.l1.length X.c1) := (Aa0 HQ2.out.1 1).trans rfl
 have x2 : w2.cell? ⟨w.heap.size, 2, none⟩ = some (.slice X.A2 X.l2.length X.c2) := (Aa0 HQ2.out.1 2).trans rfl
 have x3 : w2.cell? ⟨w.heap.size, 3, none⟩ = some (.slice X.A3 X.l3.length X.c3) := (Aa0 HQ2.out.1 3).trans rfl
 have x4 : w2.cell? ⟨w.heap.size, 4, none⟩ = some (.slice X.A4 X.l4.length X.c4) := (Aa0 HQ2.out.1 4).trans rfl
 have x5 : w2.cell? ⟨w.heap.size, 5, none⟩ = some (.slice X.A5 X.l5.length X.c5) := (Aa0 HQ2.out.1 5).trans rfl
 have x6 : w2.cell? ⟨w.heap.size, 6, none⟩ = some (.slice X.A6 X.l6.length X.c6) := (Aa0 HQ2.out.1 6).trans rfl
 have x7 : w2.cell? ⟨w.heap.size, 7, none⟩ = some (.int .i64 X.d7) := (Aa0 HQ2.out.1 7).trans rfl
 have x8 : w2.cell? ⟨w.heap.size, 8, none⟩ = some (.slice X.A8 X.l8.length X.c8) := (Aa0 HQ2.out.1 8).trans rfl
 have y7 : w2.cell? ⟨w.heap.size + 1, 7, none⟩ = some (.int .i64 t) := (Aa0 HQ2.out.2 7).trans rfl
 have y8 : w2.cell? ⟨w.heap.size + 1, 8, none⟩ = some (.int .i64 v.f0) := (Aa0 HQ2.out.2 8).trans rfl
 have y9 : w2.cell? ⟨w.heap.size + 1, 9, none⟩ = some (.bool v.f1) := (Aa0 HQ2.out.2 9).trans rfl
 have y10 : w2.cell? ⟨w.heap.size + 1, 10, none⟩ = some (.int .i64 v.f2) := (Aa0 HQ2.out.2 10).trans rfl
 have hB2 : Below w1.heap.size w1 w2 := Af5 ((Chg.of_below (BW.out.trans (B1.out.mono BW.out.size)) (fun _ => False)).trans (K := S) Q2.out.chg (fun _ e => e.elim) (fun x e => .inl e)) (Nat.le_refl _) (fun x e => NW.out x (.inl e))
 have KB := An6 X.A0 X.c0 X.l0 X.A1 X.c1 X.l1 X.A2 X.c2 X.l2 X.A3 X.c3 X.l3 X.A4 X.c4 X.l4 X.A5 X.c5 X.l5 X.A6 X.c6 X.l6 X.d7 X.A8 X.c8 X.l8 t v w2 (HX.out.xin.below hB2) HT.out
 have BL := zA (Bb3 X.l0 HX.out.xin.bulk t v)
 clear hB2
 obtain ⟨rr, hrr⟩ : ∃ rr, rr = btV X.l0 t v := ⟨_, rfl⟩
 rw [← hrr] at KB BL
 have HR := zA hrr
 clear hrr
 obtain ⟨ins, outs, er⟩ := rr
 go_wp2_with fail
 refine KB.mono ?_
 intro e w3 hft
 obtain ⟨A1, c1, A2, c2, rfl, hlk, hb3⟩ := hft.lent
 dsimp only at hlk ⊢
 have L3 := zA (hlk (fun x => S2 x ∨ D x) Q2.out.st.lt)
 have Q3 := zA (Q2.out.below hb3)
 have HQ3 := zA (And.intro (Aa3 HQ2.out.1 hb3) (Aa3 HQ2.out.2 hb3))
 have HE : Aa2 (er = 0 ∨ er ≠ 0) := ⟨Decidable.em _⟩
 obtain ⟨n1, hn1⟩ : ∃ n1, n1 = ins.length := ⟨_, rfl⟩
 obtain ⟨n2, hn2⟩ : ∃ n2, n2 = outs.length := ⟨_, rfl⟩
 have HN := zA (And.intro hn1 hn2)
 rw [← hn1, ← hn2]
 clear KB hft hlk hb3 hn1 hn2 z0 x0 x1 x2 x3 x4 x5 x6 x7 x8 y7 y8 y9 y10
 rcases HE.out with he | he
 rotate_left
 ·have g0 : (er == 0) = false := beq_eq_false_iff_ne.mpr he
  have g1 : (er != 0) = true := bne_iff_ne.mpr he
  have HNE := zA he
  clear he
  go_wp2_with fail
  go_ret
  exact ⟨er, k, S2, rfl, Q3.out.ahead B1.out, fun e => absurd e HNE.out⟩
 subst he
 have x0 : w3.cell? ⟨w.heap.size, 0, none⟩ = some (.slice X.A0 X.l0.length X.c0) := (Aa0 HQ3.out.1 0).trans rfl
 have x1 : w3.cell? ⟨w.heap.size, 1, none⟩ = some (.slice X.A1 X.l1.length X.c1) := (Aa0 HQ3.out.1 1).trans rfl
 have x2 : w3.cell? ⟨w.heap.size, 2, none⟩ = some (.slice X.A2 X.l2.length X.c2) := (Aa0 HQ3.out.1 2).trans rfl
 have x3 : w3.cell? ⟨w.heap.size, 3, none⟩ = some (.slice X.A3 X.l3.length X.c3) := (Aa0 HQ3.out.1 3).trans rfl
 have x4 : w3.cell? ⟨w.heap.size, 4, none⟩ = some (.slice X.A4 X.l4.length X.c4) := (Aa0 HQ3.out.1 4).trans rfl
 have x5 : w3.cell? ⟨w.heap.size, 5, none⟩ = some (.slice X.A5 X.l5.length X.c5) := (Aa0 HQ3.out.1 5).trans rfl
 have x6 : w3.cell? ⟨w.heap.size, 6, none⟩ = some (.slice X.A6 X.l6.length X.c6) := (Aa0 HQ3.out.1 6).trans rfl
 have x7 : w3.cell? ⟨w.heap.size, 7, none⟩ = some (.int .i64 X.d7) := (Aa0 HQ3.out.1 7).trans rfl
 have x8 : w3.cell? ⟨w.heap.size, 8, none⟩ = some (.slice X.A8 X.l8.length X.c8) := (Aa0 HQ3.out.1 8).trans rfl
 have y0 : w3.cell? ⟨w.heap.size + 1, 0, none⟩ = some (.int .i64 I.op) := (Aa0 HQ3.out.2 0).trans rfl
 have y1 : w3.cell? ⟨w.heap.size + 1, 1, none⟩ = some (.int .u32 I.x) := (Aa0 HQ3.out.2 1).trans rfl
 have y2 : w3.cell? ⟨w.heap.size + 1, 2, none⟩ = some (.int .u32 I.y) := (Aa0 HQ3.out.2 2).trans rfl
 have y3 : w3.cell? ⟨w.heap.size + 1, 3, none⟩ = some (I.v3) := (Aa0 HQ3.out.2 3).trans rfl
 have y4 : w3.cell? ⟨w.heap.size + 1, 4, none⟩ = some (I.v4) := (Aa0 HQ3.out.2 4).trans rfl
 have y5 : w3.cell? ⟨w.heap.size + 1, 5, none⟩ = some (I.v5) := (Aa0 HQ3.out.2 5).trans rfl
 have y6 : w3.cell? ⟨w.heap.size + 1, 6, none⟩ = some (I.v6) := (Aa0 HQ3.out.2 6).trans rfl
 have y7 : w3.cell? ⟨w.heap.size + 1, 7, none⟩ = some (.int .i64 t) := (Aa0 HQ3.out.2 7).trans rfl
 have y8 : w3.cell? ⟨w.heap.size + 1, 8, none⟩ = some (.int .i64 v.f0) := (Aa0 HQ3.out.2 8).trans rfl
 have y9 : w3.cell? ⟨w.heap.size + 1, 9, none⟩ = some (.bool v.f1) := (Aa0 HQ3.out.2 9).trans rfl
 have y10 : w3.cell? ⟨w.heap.size + 1, 10, none⟩ = some (.int .i64 v.f2) := (Aa0 HQ3.out.2 10).trans rfl
 have y11 : w3.cell? ⟨w.heap.size + 1, 11, none⟩ = some (I.v11) := (Aa0 HQ3.out.2 11).trans rfl
 have y12 : w3.cell? ⟨w.heap.size + 1, 12, none⟩ = some (I.v12) := (Aa0 HQ3.out.2 12).trans rfl
 have y13 : w3.cell? ⟨w.heap.size + 1, 13, none⟩ = some (I.v13) := (Aa0 HQ3.out.2 13).trans rfl
 have y14 : w3.cell? ⟨w.heap.size + 1, 14, none⟩ = some (.slice I.AL I.ls.length I.cL) := (Aa0 HQ3.out.2 14).trans rfl
 have y15 : w3.cell? ⟨w.heap.size + 1, 15, none⟩ = some (I.v15) := (Aa0 HQ3.out.2 15).trans rfl
 have y16 : w3.cell? ⟨w.heap.size + 1, 16, none⟩ = some (I.v16) := (Aa0 HQ3.out.2 16).trans rfl
 go_upto_region 13 with fail
 obtain ⟨w4, hw4⟩ : ∃ w4, w4 = w3.alloc (.cells #[.slice X.A0 X.l0.length X.c0, .slice X.A1 X.l1.length X.c1, .slice X.A2 X.l2.length X.c2, .slice X.A3 X.l3.length X.c3, .slice X.A4 X.l4.length X.c4, .slice X.A5 X.l5.length X.c5, .slice X.A6 X.l6.length X.c6, .int .i64 X.d7, .slice X.A8 X.l8.length X.c8, .pointer (some ⟨g, 0, none⟩), .int .i64 I.op, .int .u32 I.x, .int .u32 I.y, I.v3, I.v4, I.v5, I.v6, .int .i64 t, .int .i64 v.f0, .bool v.f1, .int .i64 v.f2, I.v11, I.v12, I.v13, .slice I.AL I.ls.length I.cL, I.v15, I.v16] 87) := ⟨_, rfl⟩
 have b4 : Below w3.heap.size w3 w4 := by rw [hw4]; exact bz_
 have K4 : Aa2 (w4.heap[w3.heap.size]? = some (.cells #[.slice X.A0 X.l0.length X.c0, .slice X.A1 X.l1.length X.c1, .slice X.A2 X.l2.length X.c2, .slice X.A3 X.l3.length X.c3, .slice X.A4 X.l4.length X.c4, .slice X.A5 X.l5.length X.c5, .slice X.A6 X.l6.length X.c6, .int .i64 X.d7, .slice X.A8 X.l8.length X.c8, .pointer (some ⟨g, 0, none⟩), .int .i64 I.op, .int .u32 I.x, .int .u32 I.y, I.v3, I.v4, I.v5, I.v6, .int .i64 t, .int .i64 v.f0, .bool v.f1, .int .i64 v.f2, I.v11, I.v12, I.v13, .slice I.AL I.ls.length I.cL, I.v15, I.v16] 87 (0, 0))) := ⟨by rw [hw4]; exact Aa6 w3 _⟩
 rw [← hw4]
 have Q4 := zA (Q3.out.below b4)
 have HQ4 := zA (And.intro (Aa3 HQ3.out.1 b4) (Aa3 HQ3.out.2 b4))
 have L4 := zA (And.intro (L3.out.1.below b4) (L3.out.2.below b4))
 have z0 : w4.cell? ⟨w.heap.size + 1, 0, none⟩ = some (.int .i64 I.op) := (Aa0 HQ4.out.2 0).trans rfl
 clear hw4 b4 x0 x1 x2 x3 x4 x5 x6 x7 x8 y0 y1 y2 y3 y4 y5 y6 y7 y8 y9 y10 y11 y12 y13 y14 y15 y16
 try generalize (Value.agg #[.slice X.A0 X.l0.length X.c0, .slice X.A1 X.l1.length X.c1, .slice X.A2 X.l2.length X.c2, .slice X.A3 X.l3.length X.c3, .slice X.A4 X.l4.length X.c4, .slice X.A5 X.l5.length X.c5, .slice X.A6 X.l6.length X.c6, .int .i64 X.d7, .slice X.A8 X.l8.length X.c8, .pointer (some ⟨g, 0, none⟩), .int .i64 I.op, .int .u32 I.x, .int .u32 I.y, I.v3, I.v4, I.v5, I.v6, .int .i64 t, .int .i64 v.f0, .bool v.f1, .int .i64 v.f2, I.v11, I.v12, I.v13, .slice I.AL I.ls.length I.cL, I.v15, I.v16]) = vK_
 obtain ⟨ep, o', hp⟩ : ∃ ep o', Al5 k.l f.height f.dead ins k.ops = (ep, o') := ⟨_, _, rfl⟩
 have HP := zA hp
 by_cases he : ep = 0
 ·subst he
  have KE := As5 Q4.out.st HF.out.g HF.out.lf HF.out.h (by have := HF.out.ops; omega) (by have := HF.out.frs; omega) I.op L4.out.1 L4.out.2 (by have h_ := BL.out.1; omega) (by have h_ := BL.out.2; omega) (by have := HS.out; omega) hp
  rw [← HN.out.1, ← HN.out.2] at KE
  clear hp
  go_wp2_with fail
  refine KE.mono ?_
  rintro e w5 ⟨rfl, S5, q5⟩
  have Q5 := zA q5
  clear KE q5
  go_wp2_with fail
  go_ret
  refine ⟨0, _, S5, rfl, (Q4.out.trans Q5.out).ahead B1.out, fun _ => ⟨o', ?_⟩⟩
  rw [← HR.out]
  exact ⟨rfl, HP.out, rfl⟩
 ·have KE := Bd9 (n2 := n2) (A2 := A2) (c2 := c2) Q4.out.st HF.out.g HF.out.lf HF.out.h (by have := HF.out.ops; omega) (by have := HF.out.frs; omega) I.op L4.out.1 (by have h_ := BL.out.1; omega) hp he
  rw [← HN.out.1] at KE
  have HNE := zA he
  clear hp he
  go_wp2_with fail
  refine KE.mono ?_
  rintro e w5 ⟨rfl, S5, q5⟩
  have Q5 := zA q5
  clear KE q5
  go_wp2_with fail
  go_ret
  exact ⟨ep, k, S5, rfl, (Q4.out.trans Q5.out).ahead B1.out, fun e => absurd e HNE.out⟩
set_option maxHeartbeats 8000000 in
theorem vOpen_3 (h : St D S g k w) (hF : Fit k f) (hx : XK w1 X I) (hb : Below w1.heap.size w1 w) (nw : ∀ x, S x ∨ D x → w1.heap.size ≤ x) (hG : GOk X.l0) (hs : k.sets.length ≤ 2097152) (hi : IB I t v) (e : I.op = 3) : Calls Tryz.prog 11 #[.agg #[.slice X.A0 X.l0.length X.c0, .slice X.A1 X.l1.length X.c1, .slice X.A2 X.l2.length X.c2, .slice X.A3 X.l3.length X.c3, .slice X.A4 X.l4.length X.c4, .slice X.A5 X.l5.length X.c5, .slice X.A6 X.l6.length X.c6, .int .i64 X.d7, .slice X.A8 X.l8.length X.c8], .pointer (some ⟨g, 0, none⟩), .agg #[.int .i64 I.op, .int .u32 I.x, .int .u32 I.y, I.v3, I.v4, I.v5, I.v6, I.v7, I.v8, I.v9, I.v10, I.v11, I.v12, I.v13, .slice I.AL I.ls.length I.cL, I.v15, I.v16]] w (Bg1 D S g X I.op t v k f w) := by
 rw [hi.e7, hi.e8, hi.e9, hi.e10]
 obtain ⟨W, hW⟩ : ∃ W, W = (w.alloc (.cells #[.slice X.A0 X.l0.length X.c0, .slice X.A1 X.l1.length X.c1, .slice X.A2 X.l2.length X.c2, .slice X.A3 X.l3.length X.c3, .slice X.A4 X.l4.length X.c4, .slice X.A5 X.l5.length X.c5, .slice X.A6 X.l6.length X.c6, .int .i64 X.d7, .slice X.A8 X.l8.length X.c8] 30)).alloc (.cells #[.int .i64 I.op, .int .u32 I.x, .int .u32 I.y, I.v3, I.v4, I.v5, I.v6, .int .i64 t, .int .i64 v.f0, .bool v.f1, .int .i64 v.f2, I.v11, I.v12, I.v13, .slice I.AL I.ls.length I.cL, I.v15, I.v16] 46) := ⟨_, rfl⟩
 have b1 : Below w.heap.size w W := by rw [hW]; exact (bz_).alloc (by simp) _
 have hq0 : W.heap[w.heap.size]? = some (.cells #[.slice X.A0 X.l0.length X.c0, .slice X.A1 X.l1.length X.c1, .slice X.A2 X.l2.length X.c2, .slice X.A3 X.l3.length X.c3, .slice X.A4 X.l4.length X.c4, .slice X.A5 X.l5.length X.c5, .slice X.A6 X.l6.length X.c6, .int .i64 X.d7, .slice X.A8 X.l8.length X.c8] 30 (0, 0)) := by rw [hW]; exact Aa5 (Aa6 w _) _
 have hq1 : W.heap[w.heap.size + 1]? = some (.cells #[.int .i64 I.op, .int .u32 I.x, .int .u32 I.y, I.v3, I.v4, I.v5, I.v6, .int .i64 t, .int .i64 v.f0, .bool v.f1, .int .i64 v.f2, I.v11, I.v12, I.v13, .slice I.AL I.ls.length I.cL, I.v15, I.v16] 46 (0, 0)) := by rw [hW]; have h_ := Aa6 (w.alloc (.cells #[.slice X.A0 X.l0.length X.c0, .slice X.A1 X.l1.length X.c1, .slice X.A2 X.l2.length X.c2, .slice X.A3 X.l3.length X.c3, .slice X.A4 X.l4.length X.c4, .slice X.A5 X.l5.length X.c5, .slice X.A6 X.l6.length X.c6, .int .i64 X.d7, .slice X.A8 X.l8.length X.c8] 30)) (.cells #[.int .i64 I.op, .int .u32 I.x, .int .u32 I.y, I.v3, I.v4, I.v5, I.v6, .int .i64 t, .int .i64 v.f0, .bool v.f1, .int .i64 v.f2, I.v11, I.v12, I.v13, .slice I.AL I.ls.length I.cL, I.v15, I.v16] 46); rw [World.size_alloc] at h_; exact h_
 have HQ := zA (And.intro hq0 hq1)
 have HF := zA hF
 have HX := zA hx
 have HG := zA hG
 have B1 := zA b1
 have BW := zA hb
 have NW := zA nw
 have HS := zA hs
 have HT := zA hi.t64
 have HLT : Aa2 (∀ x, S x ∨ D x → x < w.heap.size) := ⟨h.lt⟩
 have KN := Ao9 (h.below b1) hF
 obtain ⟨op, hop⟩ : ∃ op, op = I.op := ⟨_, rfl⟩
 have g2 : (I.op == 2) = false := by rw [e]; rfl
 have g3 : (I.op == 3) = true := by rw [e]; rfl
 have g31 : (I.op == 31) = false := by rw [e]; rfl
 have g4 : (I.op != 4) = true := by rw [e]; rfl
 clear h hF hx hb nw hG hs hi b1 hq0 hq1 e hop op
 go_enter Tryz.func11, Tryz.ntmps11
 go_wp2_with fail
 rw [← hW]
 clear hW
 refine KN.mono ?_
 rintro e w2 ⟨rfl, S2, q2⟩
 have Q2 := zA q2
 have HQ2 := zA (And.intro (q2.chg.blk HQ.out.1 (fun e => by have := HLT.out _ (.inl e); omega)) (q2.chg.blk HQ.out.2 (fun e => by have := HLT.out _ (.inl e); omega)))
 have z0 : w2.cell? ⟨w.heap.size + 1, 0, none⟩ = some (.int .i64 I.op) := (Aa0 HQ2.out.2 0).trans rfl
 clear KN q2
 have x0 : w2.cell? ⟨w.heap.size, 0, none⟩ = some (.slice X.A0 X.l0.length X.c0) := (Aa0 HQ2.out.1 0).trans rfl
 have x1 : w2.cell? ⟨w.heap.size, 1, none⟩ = some (.slice X.A1 X.l1.length X.c1) := (Aa0 HQ2.out.1 1).trans rfl
 have x2 : w2.cell? ⟨w.heap.size, 2, none⟩ = some (.slice X.A2 X.l2.length X.c2) := (Aa0 HQ2.out.1 2).trans rfl
 have x3 : w2.cell? ⟨w.heap.size, 3, none⟩ = some (.slice X.A3 X.l3.length X.c3) := (Aa0 HQ2.out.1 3).trans rfl
 have x4 : w2.cell? ⟨w.heap.size, 4, none⟩ = some (.slice X.A4 X.l4.length X.c4) := (Aa0 HQ2.out.1 4).trans rfl
 have x5 : w2.cell? ⟨w.heap.size, 5, none⟩ = some (.slice X.A5 X.l5.length X.c5) := (Aa0 HQ2.out.1 5).trans rfl
 have x6 : w2.cell? ⟨w.heap.size, 6, none⟩ = some (.slice X.A6 X.l6.length X.c6) := (Aa0 HQ2.out.1 6).trans rfl
 have x7 : w2.cell? ⟨w.heap.size, 7, none⟩ = some (.int .i64 X.d7) := (Aa0 HQ2.out.1 7).trans rfl
 have x8 : w2.cell? ⟨w.heap.size, 8, none⟩ = some (.slice X.A8 X.l8.length X.c8) := (Aa0 HQ2.out.1 8).trans rfl
 have y7 : w2.cell? ⟨w.heap.size + 1, 7, none⟩ = some (.int .i64 t) := (Aa0 HQ2.out.2 7).trans rfl
 have y8 : w2.cell? ⟨w.heap.size + 1, 8, none⟩ = some (.int .i64 v.f0) := (Aa0 HQ2.out.2 8).trans rfl
 have y9 : w2.cell? ⟨w.heap.size + 1, 9, none⟩ = some (.bool v.f1) := (Aa0 HQ2.out.2 9).trans rfl
 have y10 : w2.cell? ⟨w.heap.size + 1, 10, none⟩ = some (.int .i64 v.f2) := (Aa0 HQ2.out.2 10).trans rfl
 have hB2 : Below w1.heap.size w1 w2 := Af5 ((Chg.of_below (BW.out.trans (B1.out.mono BW.out.size)) (fun _ => False)).trans (K := S) Q2.out.chg (fun _ e => e.elim) (fun x e => .inl e)) (Nat.le_refl _) (fun x e => NW.out x (.inl e))
 have KB := An6 X.A0 X.c0 X.l0 X.A1 X.c1 X.l1 X.A2 X.c2 X.l2 X.A3 X.c3 X.l3 X.A4 X.c4 X.l4 X.A5 X.c5 X.l5 X.A6 X.c6 X.l6 X.d7 X.A8 X.c8 X.l8 t v w2 (HX.out.xin.below hB2) HT.out
 have BL := zA (Bb3 X.l0 HX.out.xin.bulk t v)
 clear hB2
 obtain ⟨rr, hrr⟩ : ∃ rr, rr = btV X.l0 t v := ⟨_, rfl⟩
 rw [← hrr] at KB BL
 have HR := zA hrr
 clear hrr
 obtain ⟨ins, outs, er⟩ := rr
 go_wp2_with fail
 refine KB.mono ?_
 intro e w3 hft
 obtain ⟨A1, c1, A2, c2, rfl, hlk, hb3⟩ := hft.lent
 dsimp only at hlk ⊢
 have L3 := zA (hlk (fun x => S2 x ∨ D x) Q2.out.st.lt)
 have Q3 := zA (Q2.out.below hb3)
 have HQ3 := zA (And.intro (Aa3 HQ2.out.1 hb3) (Aa3 HQ2.out.2 hb3))
 have HE : Aa2 (er = 0 ∨ er ≠ 0) := ⟨Decidable.em _⟩
 obtain ⟨n1, hn1⟩ : ∃ n1, n1 = ins.length := ⟨_, rfl⟩
 obtain ⟨n2, hn2⟩ : ∃ n2, n2 = outs.length := ⟨_, rfl⟩
 have HN := zA (And.intro hn1 hn2)
 rw [← hn1, ← hn2]
 clear KB hft hlk hb3 hn1 hn2 z0 x0 x1 x2 x3 x4 x5 x6 x7 x8 y7 y8 y9 y10
 rcases HE.out with he | he
 rotate_left
 ·have g0 : (er == 0) = false := beq_eq_false_iff_ne.mpr he
  have g1 : (er != 0) = true := bne_iff_ne.mpr he
  have HNE := zA he
  clear he
  go_wp2_with fail
  go_ret
  exact ⟨er, k, S2, rfl, Q3.out.ahead B1.out, fun e => absurd e HNE.out⟩
 subst he
 have x0 : w3.cell? ⟨w.heap.size, 0, none⟩ = some (.slice X.A0 X.l0.length X.c0) := (Aa0 HQ3.out.1 0).trans rfl
 have x1 : w3.cell? ⟨w.heap.size, 1, none⟩ = some (.slice X.A1 X.l1.length X.c1) := (Aa0 HQ3.out.1 1).trans rfl
 have x2 : w3.cell? ⟨w.heap.size, 2, none⟩ = some (.slice X.A2 X.l2.length X.c2) := (Aa0 HQ3.out.1 2).trans rfl
 have x3 : w3.cell? ⟨w.heap.size, 3, none⟩ = some (.slice X.A3 X.l3.length X.c3) := (Aa0 HQ3.out.1 3).trans rfl
 have x4 : w3.cell? ⟨w.heap.size, 4, none⟩ = some (.slice X.A4 X.l4.length X.c4) := (Aa0 HQ3.out.1 4).trans rfl
 have x5 : w3.cell? ⟨w.heap.size, 5, none⟩ = some (.slice X.A5 X.l5.length X.c5) := (Aa0 HQ3.out.1 5).trans rfl
 have x6 : w3.cell? ⟨w.heap.size, 6, none⟩ = some (.slice X.A6 X.l6.length X.c6) := (Aa0 HQ3.out.1 6).trans rfl
 have x7 : w3.cell? ⟨w.heap.size, 7, none⟩ = some (.int .i64 X.d7) := (Aa0 HQ3.out.1 7).trans rfl
 have x8 : w3.cell? ⟨w.heap.size, 8, none⟩ = some (.slice X.A8 X.l8.length X.c8) := (Aa0 HQ3.out.1 8).trans rfl
 have y0 : w3.cell? ⟨w.heap.size + 1, 0, none⟩ = some (.int .i64 I.op) := (Aa0 HQ3.out.2 0).trans rfl
 have y1 : w3.cell? ⟨w.heap.size + 1, 1, none⟩ = some (.int .u32 I.x) := (Aa0 HQ3.out.2 1).trans rfl
 have y2 : w3.cell? ⟨w.heap.size + 1, 2, none⟩ = some (.int .u32 I.y) := (Aa0 HQ3.out.2 2).trans rfl
 have y3 : w3.cell? ⟨w.heap.size + 1, 3, none⟩ = some (I.v3) := (Aa0 HQ3.out.2 3).trans rfl
 have y4 : w3.cell? ⟨w.heap.size + 1, 4, none⟩ = some (I.v4) := (Aa0 HQ3.out.2 4).trans rfl
 have y5 : w3.cell? ⟨w.heap.size + 1, 5, none⟩ = some (I.v5) := (Aa0 HQ3.out.2 5).trans rfl
 have y6 : w3.cell? ⟨w.heap.size + 1, 6, none⟩ = some (I.v6) := (Aa0 HQ3.out.2 6).trans rfl
 have y7 : w3.cell? ⟨w.heap.size + 1, 7, none⟩ = some (.int .i64 t) := (Aa0 HQ3.out.2 7).trans rfl
 have y8 : w3.cell? ⟨w.heap.size + 1, 8, none⟩ = some (.int .i64 v.f0) := (Aa0 HQ3.out.2 8).trans rfl
 have y9 : w3.cell? ⟨w.heap.size + 1, 9, none⟩ = some (.bool v.f1) := (Aa0 HQ3.out.2 9).trans rfl
 have y10 : w3.cell? ⟨w.heap.size + 1, 10, none⟩ = some (.int .i64 v.f2) := (Aa0 HQ3.out.2 10).trans rfl
 have y11 : w3.cell? ⟨w.heap.size + 1, 11, none⟩ = some (I.v11) := (Aa0 HQ3.out.2 11).trans rfl
 have y12 : w3.cell? ⟨w.heap.size + 1, 12, none⟩ = some (I.v12) := (Aa0 HQ3.out.2 12).trans rfl
 have y13 : w3.cell? ⟨w.heap.size + 1, 13, none⟩ = some (I.v13) := (Aa0 HQ3.out.2 13).trans rfl
 have y14 : w3.cell? ⟨w.heap.size + 1, 14, none⟩ = some (.slice I.AL I.ls.length I.cL) := (Aa0 HQ3.out.2 14).trans rfl
 have y15 : w3.cell? ⟨w.heap.size + 1, 15, none⟩ = some (I.v15) := (Aa0 HQ3.out.2 15).trans rfl
 have y16 : w3.cell? ⟨w.heap.size + 1, 16, none⟩ = some (I.v16) := (Aa0 HQ3.out.2 16).trans rfl
 go_upto_region 13 with fail
 obtain ⟨w4, hw4⟩ : ∃ w4, w4 = w3.alloc (.cells #[.slice X.A0 X.l0.length X.c0, .slice X.A1 X.l1.length X.c1, .slice X.A2 X.l2.length X.c2, .slice X.A3 X.l3.length X.c3, .slice X.A4 X.l4.length X.c4, .slice X.A5 X.l5.length X.c5, .slice X.A6 X.l6.length X.c6, .int .i64 X.d7, .slice X.A8 X.l8.length X.c8, .pointer (some ⟨g, 0, none⟩), .int .i64 I.op, .int .u32 I.x, .int .u32 I.y, I.v3, I.v4, I.v5, I.v6, .int .i64 t, .int .i64 v.f0, .bool v.f1, .int .i64 v.f2, I.v11, I.v12, I.v13, .slice I.AL I.ls.length I.cL, I.v15, I.v16] 87) := ⟨_, rfl⟩
 have b4 : Below w3.heap.size w3 w4 := by rw [hw4]; exact bz_
 have K4 : Aa2 (w4.heap[w3.heap.size]? = some (.cells #[.slice X.A0 X.l0.length X.c0, .slice X.A1 X.l1.length X.c1, .slice X.A2 X.l2.length X.c2, .slice X.A3 X.l3.length X.c3, .slice X.A4 X.l4.length X.c4, .slice X.A5 X.l5.length X.c5, .slice X.A6 X.l6.length X.c6, .int .i64 X.d7, .slice X.A8 X.l8.length X.c8, .pointer (some ⟨g, 0, none⟩), .int .i64 I.op, .int .u32 I.x, .int .u32 I.y, I.v3, I.v4, I.v5, I.v6, .int .i64 t, .int .i64 v.f0, .bool v.f1, .int .i64 v.f2, I.v11, I.v12, I.v13, .slice I.AL I.ls.length I.cL, I.v15, I.v16] 87 (0, 0))) := ⟨by rw [hw4]; exact Aa6 w3 _⟩
 rw [← hw4]
 have Q4 := zA (Q3.out.below b4)
 have HQ4 := zA (And.intro (Aa3 HQ3.out.1 b4) (Aa3 HQ3.out.2 b4))
 have L4 := zA (And.intro (L3.out.1.below b4) (L3.out.2.below b4))
 have z0 : w4.cell? ⟨w.heap.size + 1, 0, none⟩ = some (.int .i64 I.op) := (Aa0 HQ4.out.2 0).trans rfl
 clear hw4 b4 x0 x1 x2 x3 x4 x5 x6 x7 x8 y0 y1 y2 y3 y4 y5 y6 y7 y8 y9 y10 y11 y12 y13 y14 y15 y16
 try generalize (Value.agg #[.slice X.A0 X.l0.length X.c0, .slice X.A1 X.l1.length X.c1, .slice X.A2 X.l2.length X.c2, .slice X.A3 X.l3.length X.c3, .slice X.A4 X.l4.length X.c4, .slice X.A5 X.l5.length X.c5, .slice X.A6 X.l6.length X.c6, .int .i64 X.d7, .slice X.A8 X.l8.length X.c8, .pointer (some ⟨g, 0, none⟩), .int .i64 I.op, .int .u32 I.x, .int .u32 I.y, I.v3, I.v4, I.v5, I.v6, .int .i64 t, .int .i64 v.f0, .bool v.f1, .int .i64 v.f2, I.v11, I.v12, I.v13, .slice I.AL I.ls.length I.cL, I.v15, I.v16]) = vK_
 obtain ⟨ep, o', hp⟩ : ∃ ep o', Al5 k.l f.height f.dead ins k.ops = (ep, o') := ⟨_, _, rfl⟩
 have HP := zA hp
 by_cases he : ep = 0
 ·subst he
  have KE := As5 Q4.out.st HF.out.g HF.out.lf HF.out.h (by have := HF.out.ops; omega) (by have := HF.out.frs; omega) I.op L4.out.1 L4.out.2 (by have h_ := BL.out.1; omega) (by have h_ := BL.out.2; omega) (by have := HS.out; omega) hp
  rw [← HN.out.1, ← HN.out.2] at KE
  clear hp
  go_wp2_with fail
  refine KE.mono ?_
  rintro e w5 ⟨rfl, S5, q5⟩
  have Q5 := zA q5
  clear KE q5
  go_wp2_with fail
  go_ret
  refine ⟨0, _, S5, rfl, (Q4.out.trans Q5.out).ahead B1.out, fun _ => ⟨o', ?_⟩⟩
  rw [← HR.out]
  exact ⟨rfl, HP.out, rfl⟩
 ·have KE := Bd9 (n2 := n2) (A2 := A2) (c2 := c2) Q4.out.st HF.out.g HF.out.lf HF.out.h (by have := HF.out.ops; omega) (by have := HF.out.frs; omega) I.op L4.out.1 (by have h_ := BL.out.1; omega) hp he
  rw [← HN.out.1] at KE
  have HNE := zA he
  clear hp he
  go_wp2_with fail
  refine KE.mono ?_
  rintro e w5 ⟨rfl, S5, q5⟩
  have Q5 := zA q5
  clear KE q5
  go_wp2_with fail
  go_ret
  exact ⟨ep, k, S5, rfl, (Q4.out.trans Q5.out).ahead B1.out, fun e => absurd e HNE.out⟩
end
section
variable {w1 w w' : World} {D S S' : Nat → Prop} {kb g : Nat} {X : CX} {I : IX} {k k' : Chk} {f : Fr} {t : Int} {v : S39}
structure CaR (w1 : World) (I : IX) (A : Option Addr) (n c : Nat) : Prop where
 e16 : I.v16 = .slice A n c
 le : n ≤ c
 b : n ≤ 1048576
 at_ : ∀ j, j < n → ∃ (ad : Addr) (kd : Int) (tg lb : Nat), A = some ad ∧ tg ≤ 4294967295 ∧ lb ≤ 4294967295 ∧ w1.cell? (ad.add (j * 3)) = some (.int .i64 kd) ∧ w1.cell? ⟨(ad.add (j * 3)).block, (ad.add (j * 3)).off + 1, none⟩ = some (.int .u32 tg) ∧ w1.cell? ⟨(ad.add (j * 3)).block, (ad.add (j * 3)).off + 2, none⟩ = some (.int .u32 lb)
set_option maxHeartbeats 8000000 in
theorem vOpen_31 (h : St D S g k w) (hF : Fit k f) (hx : XK w1 X I) (hb : Below w1.heap.size w1 w) (nw : ∀ x, S x ∨ D x → w1.heap.size ≤ x) (hG : GOk X.l0) (hs : k.sets.length ≤ 2097152) (hi : IB I t v) {AC : Option Addr} {n c : Nat} (hc : CaR w1 I AC n c) (e : I.op = 31) : Calls Tryz.prog 11 #[.agg #[.slice X.A0 X.l0.length X.c0, .slice X.A1 X.l1.length X.c1, .slice X.A2 X.l2.length X.c2, .slice X.A3 X.l3.length X.c3, .slice X.A4 X.l4.length X.c4, .slice X.A5 X.l5.length X.c5, .slice X.A6 X.l6.length X.c6, .int .i64 X.d7, .slice X.A8 X.l8.length X.c8], .pointer (some ⟨g, 0, none⟩), .agg #[.int .i64 I.op, .int .u32 I.x, .int .u32 I.y, I.v3, I.v4, I.v5, I.v6, I.v7, I.v8, I.v9, I.v10, I.v11, I.v12, I.v13, .slice I.AL I.ls.length I.cL, I.v15, I.v16]] w (Bg1 D S g X I.op t v k f w) := by
 rw [hi.e7, hi.e8, hi.e9, hi.e10, hc.e16]
 obtain ⟨W, hW⟩ : ∃ W, W = (w.alloc (.cells #[.slice X.A0 X.l0.length X.c0, .slice X.A1 X.l1.length X.c1, .slice X.A2 X.l2.length X.c2, .slice X.A3 X.l3.length X.c3, .slice X.A4 X.l4.length X.c4, .slice X.A5 X.l5.length X.c5, .slice X.A6 X.l6.length X.c6, .int .i64 X.d7, .slice X.A8 X.l8.length X.c8] 30)).alloc (.cells #[.int .i64 I.op, .int .u32 I.x, .int .u32 I.y, I.v3, I.v4, I.v5, I.v6, .int .i64 t, .int .i64 v.f0, .bool v.f1, .int .i64 v.f2, I.v11, I.v12, I.v13, .slice I.AL I.ls.length I.cL, I.v15, .slice AC n c] 46) := ⟨_, rfl⟩
 have b1 : Below w.heap.size w W := by rw [hW]; exact (bz_).alloc (by simp) _
 have hq0 : W.heap[w.heap.size]? = some (.cells #[.slice X.A0 X.l0.length X.c0, .slice X.A1 X.l1.length X.c1, .slice X.A2 X.l2.length X.c2, .slice X.A3 X.l3.length X.c3, .slice X.A4 X.l4.length X.c4, .slice X.A5 X.l5.length X.c5, .slice X.A6 X.l6.length X.c6, .int .i64 X.d7, .slice X.A8 X.l8.length X.c8] 30 (0, 0)) := by rw [hW]; exact Aa5 (Aa6 w _) _
 have hq1 : W.heap[w.heap.size + 1]? = some (.cells #[.int .i64 I.op, .int .u32 I.x, .int .u32 I.y, I.v3, I.v4, I.v5, I.v6, .int .i64 t, .int .i64 v.f0, .bool v.f1, .int .i64 v.f2, I.v11, I.v12, I.v13, .slice I.AL I.ls.length I.cL, I.v15, .slice AC n c] 46 (0, 0)) := by rw [hW]; have h_ := Aa6 (w.alloc (.cells #[.slice X.A0 X.l0.length X.c0, .slice X.A1 X.l1.length X.c1, .slice X.A2 X.l2.length X.c2, .slice X.A3 X.l3.length X.c3, .slice X.A4 X.l4.length X.c4, .slice X.A5 X.l5.length X.c5, .slice X.A6 X.l6.length X.c6, .int .i64 X.d7, .slice X.A8 X.l8.length X.c8] 30)) (.cells #[.int .i64 I.op, .int .u32 I.x, .int .u32 I.y, I.v3, I.v4, I.v5, I.v6, .int .i64 t, .int .i64 v.f0, .bool v.f1, .int .i64 v.f2, I.v11, I.v12, I.v13, .slice I.AL I.ls.length I.cL, I.v15, .slice AC n c] 46); rw [World.size_alloc] at h_; exact h_
 have HQ := zA (And.intro hq0 hq1)
 have HF := zA hF
 have HX := zA hx
 have HG := zA hG
 have B1 := zA b1
 have BW := zA hb
 have NW := zA nw
 have HS := zA hs
 have HT := zA hi.t64
 have HLT : Aa2 (∀ x, S x ∨ D x → x < w.heap.size) := ⟨h.lt⟩
 have KN := Ao9 (h.below b1) hF
 obtain ⟨op, hop⟩ : ∃ op, op = I.op := ⟨_, rfl⟩
 have g2 : (I.op == 2) = false := by rw [e]; rfl
 have g3 : (I.op == 3) = false := by rw [e]; rfl
 have g40 : (I.op == 4) = false := by rw [e]; rfl
 have g31 : (I.op == 31) = true := by rw [e]; rfl
 have g4 : (I.op != 4) = true := by rw [e]; rfl
 have CC := zA hc
 have HI := zA hi
 clear h hF hx hb nw hG hs hi b1 hq0 hq1 e hc hop op
 go_enter Tryz.func11, Tryz.ntmps11
 go_wp2_with fail
 rw [← hW]
 clear hW
 refine KN.mono ?_
 rintro e w2 ⟨rfl, S2, q2⟩
 have Q2 := zA q2
 have HQ2 := zA (And.intro (q2.chg.blk HQ.out.1 (fun e => by have := HLT.out _ (.inl e); omega)) (q2.chg.blk HQ.out.2 (fun e => by have := HLT.out _ (.inl e); omega)))
 have z0 : w2.cell? ⟨w.heap.size + 1, 0, none⟩ = some (.int .i64 I.op) := (Aa0 HQ2.out.2 0).trans rfl
 clear KN q2
 have x0 : w2.cell? ⟨w.heap.size, 0, none⟩ = some (.slice X.A0 X.l0.length X.c0) := (Aa0 HQ2.out.1 0).trans rfl
 have x1 : w2.cell? ⟨w.heap.size, 1, none⟩ = some (.slice X.A1 X.l1.length X.c1) := (Aa0 HQ2.out.1 1).trans rfl
 have x2 : w2.cell? ⟨w.heap.size, 2, none⟩ = some (.slice X.A2 X.l2.length X.c2) := (Aa0 HQ2.out.1 2).trans rfl
 have x3 : w2.cell? ⟨w.heap.size, 3, none⟩ = some (.slice X.A3 X.l3.length X.c3) := (Aa0 HQ2.out.1 3).trans rfl
 have x4 : w2.cell? ⟨w.heap.size, 4, none⟩ = some (.slice X.A4 X.l4.length X.c4) := (Aa0 HQ2.out.1 4).trans rfl
 have x5 : w2.cell? ⟨w.heap.size, 5, none⟩ = some (.slice X.A5 X.l5.length X.c5) := (Aa0 HQ2.out.1 5).trans rfl
 have x6 : w2.cell? ⟨w.heap.size, 6, none⟩ = some (.slice X.A6 X.l6.length X.c6) := (Aa0 HQ2.out.1 6).trans rfl
 have x7 : w2.cell? ⟨w.heap.size, 7, none⟩ = some (.int .i64 X.d7) := (Aa0 HQ2.out.1 7).trans rfl
 have x8 : w2.cell? ⟨w.heap.size, 8, none⟩ = some (.slice X.A8 X.l8.length X.c8) := (Aa0 HQ2.out.1 8).trans rfl
 have y7 : w2.cell? ⟨w.heap.size + 1, 7, none⟩ = some (.int .i64 t) := (Aa0 HQ2.out.2 7).trans rfl
 have y8 : w2.cell? ⟨w.heap.size + 1, 8, none⟩ = some (.int .i64 v.f0) := (Aa0 HQ2.out.2 8).trans rfl
 have y9 : w2.cell? ⟨w.heap.size + 1, 9, none⟩ = some (.bool v.f1) := (Aa0 HQ2.out.2 9).trans rfl
 have y10 : w2.cell? ⟨w.heap.size + 1, 10, none⟩ = some (.int .i64 v.f2) := (Aa0 HQ2.out.2 10).trans rfl
 have hB2 : Below w1.heap.size w1 w2 := Af5 ((Chg.of_below (BW.out.trans (B1.out.mono BW.out.size)) (fun _ => False)).trans (K := S) Q2.out.chg (fun _ e => e.elim) (fun x e => .inl e)) (Nat.le_refl _) (fun x e => NW.out x (.inl e))
 have KB := An6 X.A0 X.c0 X.l0 X.A1 X.c1 X.l1 X.A2 X.c2 X.l2 X.A3 X.c3 X.l3 X.A4 X.c4 X.l4 X.A5 X.c5 X.l5 X.A6 X.c6 X.l6 X.d7 X.A8 X.c8 X.l8 t v w2 (HX.out.xin.below hB2) HT.out
 have BL := zA (Bb3 X.l0 HX.out.xin.bulk t v)
 clear hB2
 obtain ⟨rr, hrr⟩ : ∃ rr, rr = btV X.l0 t v := ⟨_, rfl⟩
 rw [← hrr] at KB BL
 have HR := zA hrr
 clear hrr
 obtain ⟨ins, outs, er⟩ := rr
 go_wp2_with fail
 refine KB.mono ?_
 intro e w3 hft
 obtain ⟨A1, c1, A2, c2, rfl, hlk, hb3⟩ := hft.lent
 dsimp only at hlk ⊢
 have L3 := zA (hlk (fun x => S2 x ∨ D x) Q2.out.st.lt)
 have Q3 := zA (Q2.out.below hb3)
 have HQ3 := zA (And.intro (Aa3 HQ2.out.1 hb3) (Aa3 HQ2.out.2 hb3))
 have HE : Aa2 (er = 0 ∨ er ≠ 0) := ⟨Decidable.em _⟩
 obtain ⟨n1, hn1⟩ : ∃ n1, n1 = ins.length := ⟨_, rfl⟩
 obtain ⟨n2, hn2⟩ : ∃ n2, n2 = outs.length := ⟨_, rfl⟩
 have HN := zA (And.intro hn1 hn2)
 rw [← hn1, ← hn2]
 clear KB hft hlk hb3 hn1 hn2 z0 x0 x1 x2 x3 x4 x5 x6 x7 x8 y7 y8 y9 y10
 rcases HE.out with he | he
 rotate_left
 ·have g0 : (er == 0) = false := beq_eq_false_iff_ne.mpr he
  have g1 : (er != 0) = true := bne_iff_ne.mpr he
  have HNE := zA he
  clear he
  go_wp2_with fail
  go_ret
  exact ⟨er, k, S2, rfl, Q3.out.ahead B1.out, fun e => absurd e HNE.out⟩
 subst he
 have x0 : w3.cell? ⟨w.heap.size, 0, none⟩ = some (.slice X.A0 X.l0.length X.c0) := (Aa0 HQ3.out.1 0).trans rfl
 have x1 : w3.cell? ⟨w.heap.size, 1, none⟩ = some (.slice X.A1 X.l1.length X.c1) := (Aa0 HQ3.out.1 1).trans rfl
 have x2 : w3.cell? ⟨w.heap.size, 2, none⟩ = some (.slice X.A2 X.l2.length X.c2) := (Aa0 HQ3.out.1 2).trans rfl
 have x3 : w3.cell? ⟨w.heap.size, 3, none⟩ = some (.slice X.A3 X.l3.length X.c3) := (Aa0 HQ3.out.1 3).trans rfl
 have x4 : w3.cell? ⟨w.heap.size, 4, none⟩ = some (.slice X.A4 X.l4.length X.c4) := (Aa0 HQ3.out.1 4).trans rfl
 have x5 : w3.cell? ⟨w.heap.size, 5, none⟩ = some (.slice X.A5 X.l5.length X.c5) := (Aa0 HQ3.out.1 5).trans rfl
 have x6 : w3.cell? ⟨w.heap.size, 6, none⟩ = some (.slice X.A6 X.l6.length X.c6) := (Aa0 HQ3.out.1 6).trans rfl
 have x7 : w3.cell? ⟨w.heap.size, 7, none⟩ = some (.int .i64 X.d7) := (Aa0 HQ3.out.1 7).trans rfl
 have x8 : w3.cell? ⟨w.heap.size, 8, none⟩ = some (.slice X.A8 X.l8.length X.c8) := (Aa0 HQ3.out.1 8).trans rfl
 have y0 : w3.cell? ⟨w.heap.size + 1, 0, none⟩ = some (.int .i64 I.op) := (Aa0 HQ3.out.2 0).trans rfl
 have y1 : w3.cell? ⟨w.heap.size + 1, 1, none⟩ = some (.int .u32 I.x) := (Aa0 HQ3.out.2 1).trans rfl
 have y2 : w3.cell? ⟨w.heap.size + 1, 2, none⟩ = some (.int .u32 I.y) := (Aa0 HQ3.out.2 2).trans rfl
 have y3 : w3.cell? ⟨w.heap.size + 1, 3, none⟩ = some (I.v3) := (Aa0 HQ3.out.2 3).trans rfl
 have y4 : w3.cell? ⟨w.heap.size + 1, 4, none⟩ = some (I.v4) := (Aa0 HQ3.out.2 4).trans rfl
 have y5 : w3.cell? ⟨w.heap.size + 1, 5, none⟩ = some (I.v5) := (Aa0 HQ3.out.2 5).trans rfl
 have y6 : w3.cell? ⟨w.heap.size + 1, 6, none⟩ = some (I.v6) := (Aa0 HQ3.out.2 6).trans rfl
 have y7 : w3.cell? ⟨w.heap.size + 1, 7, none⟩ = some (.int .i64 t) := (Aa0 HQ3.out.2 7).trans rfl
 have y8 : w3.cell? ⟨w.heap.size + 1, 8, none⟩ = some (.int .i64 v.f0) := (Aa0 HQ3.out.2 8).trans rfl
 have y9 : w3.cell? ⟨w.heap.size + 1, 9, none⟩ = some (.bool v.f1) := (Aa0 HQ3.out.2 9).trans rfl
 have y10 : w3.cell? ⟨w.heap.size + 1, 10, none⟩ = some (.int .i64 v.f2) := (Aa0 HQ3.out.2 10).trans rfl
 have y11 : w3.cell? ⟨w.heap.size + 1, 11, none⟩ = some (I.v11) := (Aa0 HQ3.out.2 11).trans rfl
 have y12 : w3.cell? ⟨w.heap.size + 1, 12, none⟩ = some (I.v12) := (Aa0 HQ3.out.2 12).trans rfl
 have y13 : w3.cell? ⟨w.heap.size + 1, 13, none⟩ = some (I.v13) := (Aa0 HQ3.out.2 13).trans rfl
 have y14 : w3.cell? ⟨w.heap.size + 1, 14, none⟩ = some (.slice I.AL I.ls.length I.cL) := (Aa0 HQ3.out.2 14).trans rfl
 have y15 : w3.cell? ⟨w.heap.size + 1, 15, none⟩ = some (I.v15) := (Aa0 HQ3.out.2 15).trans rfl
 have y16 : w3.cell? ⟨w.heap.size + 1, 16, none⟩ = some (.slice AC n c) := (Aa0 HQ3.out.2 16).trans rfl
 go_upto_region 13 with fail
 obtain ⟨w4, hw4⟩ : ∃ w4, w4 = w3.alloc (.cells #[.slice X.A0 X.l0.length X.c0, .slice X.A1 X.l1.length X.c1, .slice X.A2 X.l2.length X.c2, .slice X.A3 X.l3.length X.c3, .slice X.A4 X.l4.length X.c4, .slice X.A5 X.l5.length X.c5, .slice X.A6 X.l6.length X.c6, .int .i64 X.d7, .slice X.A8 X.l8.length X.c8, .pointer (some ⟨g, 0, none⟩), .int .i64 I.op, .int .u32 I.x, .int .u32 I.y, I.v3, I.v4, I.v5, I.v6, .int .i64 t, .int .i64 v.f0, .bool v.f1, .int .i64 v.f2, I.v11, I.v12, I.v13, .slice I.AL I.ls.length I.cL, I.v15, .slice AC n c] 87) := ⟨_, rfl⟩
 have b4 : Below w3.heap.size w3 w4 := by rw [hw4]; exact bz_
 have K4 : Aa2 (w4.heap[w3.heap.size]? = some (.cells #[.slice X.A0 X.l0.length X.c0, .slice X.A1 X.l1.length X.c1, .slice X.A2 X.l2.length X.c2, .slice X.A3 X.l3.length X.c3, .slice X.A4 X.l4.length X.c4, .slice X.A5 X.l5.length X.c5, .slice X.A6 X.l6.length X.c6, .int .i64 X.d7, .slice X.A8 X.l8.length X.c8, .pointer (some ⟨g, 0, none⟩), .int .i64 I.op, .int .u32 I.x, .int .u32 I.y, I.v3, I.v4, I.v5, I.v6, .int .i64 t, .int .i64 v.f0, .bool v.f1, .int .i64 v.f2, I.v11, I.v12, I.v13, .slice I.AL I.ls.length I.cL, I.v15, .slice AC n c] 87 (0, 0))) := ⟨by rw [hw4]; exact Aa6 w3 _⟩
 rw [← hw4]
 have Q4 := zA (Q3.out.below b4)
 have HQ4 := zA (And.intro (Aa3 HQ3.out.1 b4) (Aa3 HQ3.out.2 b4))
 have L4 := zA (And.intro (L3.out.1.below b4) (L3.out.2.below b4))
 have z0 : w4.cell? ⟨w.heap.size + 1, 0, none⟩ = some (.int .i64 I.op) := (Aa0 HQ4.out.2 0).trans rfl
 clear hw4 b4 x0 x1 x2 x3 x4 x5 x6 x7 x8 y0 y1 y2 y3 y4 y5 y6 y7 y8 y9 y10 y11 y12 y13 y14 y15 y16
 try generalize (Value.agg #[.slice X.A0 X.l0.length X.c0, .slice X.A1 X.l1.length X.c1, .slice X.A2 X.l2.length X.c2, .slice X.A3 X.l3.length X.c3, .slice X.A4 X.l4.length X.c4, .slice X.A5 X.l5.length X.c5, .slice X.A6 X.l6.length X.c6, .int .i64 X.d7, .slice X.A8 X.l8.length X.c8, .pointer (some ⟨g, 0, none⟩), .int .i64 I.op, .int .u32 I.x, .int .u32 I.y, I.v3, I.v4, I.v5, I.v6, .int .i64 t, .int .i64 v.f0, .bool v.f1, .int .i64 v.f2, I.v11, I.v12, I.v13, .slice I.AL I.ls.length I.cL, I.v15, .slice AC n c]) = vK_
 have hB4 : Below w1.heap.size w1 w4 := Af5 ((Chg.of_below (BW.out.trans (B1.out.mono BW.out.size)) (fun _ => False)).trans (K := S) Q4.out.chg (fun _ e => e.elim) (fun x e => .inl e)) (Nat.le_refl _) (fun x e => NW.out x (.inl e))
 have HB4 := zA hB4
 have KI4 : Aa2 (KI w1 D S2 w3.heap.size g X I w4) := ⟨⟨by rw [HI.out.e7, HI.out.e8, HI.out.e9, HI.out.e10, CC.out.e16]; exact K4.out, hB4, fun x e => e.elim (fun e => (Q4.out.grow x e).elim (fun e => NW.out x (.inl e)) (fun l => Nat.le_trans (Nat.le_trans BW.out.size B1.out.size) l)) (fun e => NW.out x (.inr e)), fun e => Nat.lt_irrefl _ (Q3.out.st.lt _ (.inl e))⟩⟩
 have zc : w4.cell? ⟨w.heap.size + 1, 16, none⟩ = some (.slice AC n c) := (Aa0 HQ4.out.2 16).trans rfl
 have NB : Aa2 (n ≤ 1048576) := ⟨CC.out.b⟩
 have nb : n ≤ 1048576 := NB.out
 clear hB4
 go_wp2_with fail
 clear z0 zc
 go_loopw [47] (fun i W => ∃ j : Nat, i = .int .i64 j ∧ j ≤ n ∧ Below w4.heap.size w4 W) (fun i _ => n - (intOf i).toNat)
 case atStart => exact ⟨0, rfl, Nat.zero_le _, Below.refl _ _⟩
 case round =>
  obtain ⟨j, rfl, hjn, hbr⟩ := hrel
  have BR := zA hbr
  by_cases hlt : j < n
  ·obtain ⟨ad, kd, tg, lb, eA, htg, hlb, y0, y1, y2⟩ := CC.out.at_ j hlt
   have BWr : Below w1.heap.size w1 wr := HB4.out.trans (hbr.mono HB4.out.size)
   replace y0 := BWr.kp y0
   replace y1 := BWr.kp y1
   replace y2 := BWr.kp y2
   have TL := zA (And.intro htg hlb)
   have HLT := zA hlt
   have hlt2 : (j : Int) < (n : Int) := by omega
   subst eA
   clear hbr hlt hjn htg hlb BWr
   go_wp2_with fail
   obtain ⟨w5, hw5⟩ : ∃ w5, w5 = wr.alloc (.cells #[.int .i64 kd, .int .u32 tg, .int .u32 lb] 89) := ⟨_, rfl⟩
   rw [← hw5]
   have b5 : Below w4.heap.size w4 w5 := by rw [hw5]; exact BR.out.alloc BR.out.size _
   have KC := Bk4 (Q4.out.st.below b5) HF.out (KI4.out.below b5) HX.out HG.out kd tg lb TL.out.1 TL.out.2
   have B5 := zA b5
   clear hw5 b5 y0 y1 y2
   refine KC.mono ?_
   rintro e w6 ⟨⟨er, rfl⟩, hb6⟩
   have B6 := zA (B5.out.trans (hb6.mono B5.out.size))
   have HE6 : Aa2 (er = 0 ∨ er ≠ 0) := ⟨Decidable.em _⟩
   clear KC hb6
   rcases HE6.out with he | he
   ·subst he
    go_wp2_with fail
    go_roundw
    case rel => exact ⟨j + 1, by go_num, HLT.out, B6.out⟩
    case measure => have := HLT.out; simp [intOf]; omega
   ·have g0 : (er == 0) = false := beq_eq_false_iff_ne.mpr he
    have g1 : (er != 0) = true := bne_iff_ne.mpr he
    have HNE := zA he
    clear he
    go_wp2_with fail
    go_ret
    exact ⟨er, k, S2, rfl, (Q4.out.below B6.out).ahead B1.out, fun e => absurd e HNE.out⟩
  ·obtain rfl : j = n := by omega
   replace Q4 := zA (Q4.out.below BR.out)
   replace L4 := zA (And.intro (L4.out.1.below BR.out) (L4.out.2.below BR.out))
   have z0 : wr.cell? ⟨w.heap.size + 1, 0, none⟩ = some (.int .i64 I.op) := (Aa0 (Aa3 HQ4.out.2 BR.out) 0).trans rfl
   clear hlt hbr hjn
   obtain ⟨ep, o', hp⟩ : ∃ ep o', Al5 k.l f.height f.dead ins k.ops = (ep, o') := ⟨_, _, rfl⟩
   have HP := zA hp
   by_cases he : ep = 0
   ·subst he
    have KE := As5 Q4.out.st HF.out.g HF.out.lf HF.out.h (by have := HF.out.ops; omega) (by have := HF.out.frs; omega) I.op L4.out.1 L4.out.2 (by have h_ := BL.out.1; omega) (by have h_ := BL.out.2; omega) (by have := HS.out; omega) hp
    rw [← HN.out.1, ← HN.out.2] at KE
    clear hp
    go_wp2_with fail
    refine KE.mono ?_
    rintro e w5 ⟨rfl, S5, q5⟩
    have Q5 := zA q5
    clear KE q5
    go_wp2_with fail
    go_ret
    refine ⟨0, _, S5, rfl, (Q4.out.trans Q5.out).ahead B1.out, fun _ => ⟨o', ?_⟩⟩
    rw [← HR.out]
    exact ⟨rfl, HP.out, rfl⟩
   ·have KE := Bd9 (n2 := n2) (A2 := A2) (c2 := c2) Q4.out.st HF.out.g HF.out.lf HF.out.h (by have := HF.out.ops; omega) (by have := HF.out.frs; omega) I.op L4.out.1 (by have h_ := BL.out.1; omega) hp he
    rw [← HN.out.1] at KE
    have HNE := zA he
    clear hp he
    go_wp2_with fail
    refine KE.mono ?_
    rintro e w5 ⟨rfl, S5, q5⟩
    have Q5 := zA q5
    clear KE q5
    go_wp2_with fail
    go_ret
    exact ⟨ep, k, S5, rfl, (Q4.out.trans Q5.out).ahead B1.out, fun e => absurd e HNE.out⟩
theorem Bs6 (h : St D S g k w) (hF : Fit k f) (hx : XK w1 X I) (hb : Below w1.heap.size w1 w) (nw : ∀ x, S x ∨ D x → w1.heap.size ≤ x) (hG : GOk X.l0) (hs : k.sets.length ≤ 2097152) (hi : IB I t v) {AC : Option Addr} {n c : Nat} (hc : CaR w1 I AC n c) (h4 : I.op ≠ 4) : Calls Tryz.prog 11 #[.agg #[.slice X.A0 X.l0.length X.c0, .slice X.A1 X.l1.length X.c1, .slice X.A2 X.l2.length X.c2, .slice X.A3 X.l3.length X.c3, .slice X.A4 X.l4.length X.c4, .slice X.A5 X.l5.length X.c5, .slice X.A6 X.l6.length X.c6, .int .i64 X.d7, .slice X.A8 X.l8.length X.c8], .pointer (some ⟨g, 0, none⟩), .agg #[.int .i64 I.op, .int .u32 I.x, .int .u32 I.y, I.v3, I.v4, I.v5, I.v6, I.v7, I.v8, I.v9, I.v10, I.v11, I.v12, I.v13, .slice I.AL I.ls.length I.cL, I.v15, I.v16]] w (Bg1 D S g X I.op t v k f w) := by
 by_cases e2 : I.op = 2
 ·exact vOpen_2 h hF hx hb nw hG hs hi e2
 ·by_cases e3 : I.op = 3
  ·exact vOpen_3 h hF hx hb nw hG hs hi e3
  ·by_cases e31 : I.op = 31
   ·exact vOpen_31 h hF hx hb nw hG hs hi hc e31
   ·exact Ca4 h hF hx hb nw hG hs hi e2 e3 h4 e31
end
end Go.Proofs.YtohlmkcgempdlaaGreatDoor.Cn
namespace Go.Proofs.YtohlmkcgempdlaaGreatDoor.Cx
set_option linter.unusedSimpArgs false
set_option maxRecDepth 100000
set_option linter.unusedVariables false
open Go.RowKit Go.Maps Go.Proofs.YtohlmkcgempdlaaGreatDoorW.PrintWords Go.Proofs.YtohlmkcgempdlaaGreatDoorW.PrintLast Go.Proofs.YtohlmkcgempdlaaGreatDoor.QD Go.Proofs.YtohlmkcgempdlaaGreatDoor.Opb Go.Proofs.YtohlmkcgempdlaaGreatDoor.Cn
theorem Ch0 : Opb Tryz.prog 23 (Kd.slice 3 (Kd.int .i64)) (fun xs => ∀ n ∈ xs, NV64 n) (fun xs => xs.length) := (Opb.slice Tryz.underlying23 (by kernel_rfl) ((Opb.int Tryz.underlying3 (by kernel_rfl)).imp (fun _ h => Ay1 h) (fun _ => Nat.le_refl _))).imp (fun _ h => h) (fun _ => by rw [Bp3]; omega)
theorem oVTs1 : Opb Tryz.prog 27 (Kd.slice 39 k39) (fun _ => True) (fun xs => xs.length + 1) := (Opb.slice Tryz.underlying27 (by kernel_rfl) oVT).imp (fun _ _ => trivial) (fun _ => by rw [Bp3]; omega)
theorem oVTss : Opb Tryz.prog 31 (Kd.slice 27 (Kd.slice 39 k39)) (fun _ => True) (fun xs => (xs.map fun t => t.length + 1).sum) := (Opb.slice Tryz.underlying31 (by kernel_rfl) oVTs1).imp (fun _ _ => trivial) (fun _ => by omega)
theorem oCtxG : Opb Tryz.prog 30 kCtx (fun x => LIn x.1 ∧ (∀ n ∈ x.2.1, NV64 n) ∧ ∀ n ∈ x.2.2.2.2.2.1, NV64 n) (fun x => wLL x.1) :=
 (Opb.struct Tryz.underlying30 (by kernel_rfl) (OpbF.cons opbRTs rfl rfl (OpbF.cons Ch0 rfl rfl (OpbF.cons oTTs rfl rfl (OpbF.cons oLims rfl rfl (OpbF.cons oGTs rfl rfl (OpbF.cons Ch0 rfl rfl (OpbF.cons oVTs rfl rfl (OpbF.cons oInt rfl rfl (OpbF.last oBools rfl)))))))))).imp (fun _ h => ⟨h.1, h.2.1, h.2.2.2.2.2.1⟩) (fun _ => by omega)
abbrev kWhere := Kd.pair kCtx (Kd.pair (Kd.slice 39 k39) (Kd.pair (Kd.slice 39 k39) (Kd.pair (Kd.slice 39 k39) (Kd.pair (Kd.slice 27 (Kd.slice 39 k39)) (Kd.pair (Kd.slice 39 k39) Kd.bool)))))
theorem oWhere : Opb Tryz.prog 33 kWhere (fun x => LIn x.1.1 ∧ (∀ n ∈ x.1.2.1, NV64 n) ∧ ∀ n ∈ x.1.2.2.2.2.2.1, NV64 n) (fun x => wLL x.1.1 + x.2.1.length + x.2.2.1.length + x.2.2.2.1.length + (x.2.2.2.2.1.map fun t => t.length + 1).sum + x.2.2.2.2.2.1.length) :=
 (Opb.struct Tryz.underlying33 (by kernel_rfl) (OpbF.cons oCtxG rfl rfl (OpbF.cons oVTs rfl rfl (OpbF.cons oVTs rfl rfl (OpbF.cons oVTs rfl rfl (OpbF.cons oVTss rfl rfl (OpbF.cons oVTs rfl rfl (OpbF.last Bu6 rfl)))))))).imp (fun _ h => h.1) (fun _ => by omega)
theorem vL_eq (l : List S132) : vL l = wLL l := rfl
theorem sum_len {α : Type} (l : List (List α)) : l.length ≤ (l.map fun t => t.length + 1).sum ∧ ∀ t ∈ l, t.length ≤ (l.map fun t => t.length + 1).sum := by
 induction l with
 | nil => exact ⟨Nat.le_refl _, fun _ h => by cases h⟩
 | cons x l ih =>
  simp only [List.map_cons, List.sum_cons, List.length_cons]
  refine ⟨by omega, fun t ht => ?_⟩
  rcases List.mem_cons.1 ht with rfl | ht
  ·omega
  ·have := ih.2 t ht
   omega
theorem Ca2 {W : World} {x : (List S132 × List Int × List S214 × List S212 × List S292 × List Int × List S39 × Int × List Bool) × List S39 × List S39 × List S39 × List (List S39) × List S39 × Bool} {cs : List Value} (h : kWhere.K W x cs)
  (hb : wLL x.1.1 + x.2.1.length + x.2.2.1.length + x.2.2.2.1.length + (x.2.2.2.2.1.map fun t => t.length + 1).sum + x.2.2.2.2.2.1.length ≤ 1048576) :
  ∃ (A0 : Option Addr) (c0 : Nat) (l0 : List S132) (A1 : Option Addr) (c1 : Nat) (l1 : List Int) (A2 : Option Addr) (c2 : Nat) (l2 : List S214) (A3 : Option Addr) (c3 : Nat) (l3 : List S212) (A4 : Option Addr) (c4 : Nat) (l4 : List S292) (A5 : Option Addr) (c5 : Nat) (l5 : List Int) (A6 : Option Addr) (c6 : Nat) (l6 : List S39) (d7 : Int) (A8 : Option Addr) (c8 : Nat) (l8 : List Bool) (AP : Option Addr) (cP : Nat) (ps : List S39) (AL : Option Addr) (cL : Nat) (ls : List S39) (AR : Option Addr) (cR : Nat) (rs : List S39) (AD : Option Addr) (cD : Nat) (dp : List (List S39)) (AS : Option Addr) (cS : Nat) (st : List S39) (dead : Bool), cs = [.slice A0 l0.length c0, .slice A1 l1.length c1, .slice A2 l2.length c2, .slice A3 l3.length c3, .slice A4 l4.length c4, .slice A5 l5.length c5, .slice A6 l6.length c6, .int .i64 d7, .slice A8 l8.length c8, .slice AP ps.length cP, .slice AL ls.length cL, .slice AR rs.length cR, .slice AD dp.length cD, .slice AS st.length cS, .bool dead] ∧ x.1.1 = l0 ∧ x.1.2.1 = l1 ∧ x.1.2.2.2.2.2.1 = l5 ∧ XIn W A0 c0 l0 A1 c1 l1 A2 c2 l2 A3 c3 l3 A4 c4 l4 A5 c5 l5 A6 c6 l6 d7 A8 c8 l8 ∧ Bs1 W AP cP ps AL cL ls AR cR rs AD cD dp AS cS st := by
 obtain ⟨_, _, rfl, hc, _, _, rfl, ⟨AP, cP, rfl, hP, CP⟩, _, _, rfl, ⟨AL, cL, rfl, hL, CL⟩, _, _, rfl, ⟨AR, cR, rfl, hR, CR_⟩, _, _, rfl, ⟨AD, cD, rfl, hD, CD⟩, _, _, rfl, ⟨AS, cS, rfl, hS, CS⟩, rfl⟩ := h
 obtain ⟨_, _, rfl, ⟨A0, c0, rfl, h0, C0⟩, _, _, rfl, ⟨A1, c1, rfl, h1, C1⟩, _, _, rfl, ⟨A2, c2, rfl, h2, C2⟩, _, _, rfl, ⟨A3, c3, rfl, h3, C3⟩, _, _, rfl, ⟨A4, c4, rfl, h4, C4⟩, _, _, rfl, ⟨A5, c5, rfl, h5, C5⟩, _, _, rfl, ⟨A6, c6, rfl, h6, C6⟩, _, _, rfl, rfl, ⟨A8, c8, rfl, h8, C8⟩⟩ := hc
 have hs := sum_len x.2.2.2.2.1
 refine ⟨A0, c0, _, A1, c1, _, A2, c2, _, A3, c3, _, A4, c4, _, A5, c5, _, A6, c6, _, _, A8, c8, _, AP, cP, _, AL, cL, _, AR, cR, _, AD, cD, _, AS, cS, _, _, rfl, rfl, rfl, rfl, ⟨C0, h0, C1, h1, C2, h2, C3, h3, C4, h4, C5, h5, C6, h6, C8, h8, by rw [vL_eq]; omega⟩, ⟨CP, hP, CL, hL, CR_, hR, CD, hD, CS, hS, by omega, by omega, by omega, by omega, by omega, fun t ht => by have := hs.2 t ht; omega⟩⟩
theorem wS_le (s : S123) : s.f1.length ≤ wS s ∧ s.f2.f1.length ≤ wS s ∧ s.f2.f2.length ≤ wS s ∧ s.f2.f3.length ≤ wS s := by unfold wS; omega
theorem Ch5 {α : Type} (f : α → Nat) (l : List α) (x : α) (h : x ∈ l) : f x ≤ (l.map f).sum := by
 induction l with
 | nil => cases h
 | cons y l ih =>
  simp only [List.map_cons, List.sum_cons]
  rcases List.mem_cons.1 h with rfl | h
  ·omega
  ·have := ih h
   omega
theorem Ch8 {α : Type} (f : α → Nat) (hf : ∀ x, 1 ≤ f x) (l : List α) : l.length ≤ (l.map f).sum := by
 induction l with
 | nil => exact Nat.le_refl _
 | cons y l ih =>
  simp only [List.map_cons, List.sum_cons, List.length_cons]
  have := hf y
  omega
theorem rts_of {l : List S132} (h : wLL l ≤ 1048576) : RTs l := by
 unfold wLL at h
 refine ⟨Nat.le_trans (Ch8 _ (fun _ => Nat.le_add_left _ _) l) h, fun r hr => ?_⟩
 have h1 := Ch5 (fun r => wG r.f0 + 1) l r hr
 have h2 : r.f0.length ≤ wG r.f0 := Ch8 wS (fun s => by unfold wS; omega) r.f0
 refine ⟨by omega, fun s hs => ?_⟩
 have h3 : wS s ≤ wG r.f0 := Ch5 wS r.f0 s hs
 have h4 := wS_le s
 exact ⟨by omega, by omega, by omega, by omega⟩
theorem Bd3 {P : Program} {t e : TypeId} (hu : P.underlying t = some (.slice e)) (hc : P.cellsOf t = 1) : Opb P t (Kd.raw 1) (fun _ => True) (fun _ => 0) := by
 refine ⟨hc, ?_⟩
 intro H enc W base spare held fuel cs dd ps h
 cases fuel with
 | zero => simp [DataW.trod] at h
 | succ fuel =>
  unfold DataW.trod at h
  rw [hu] at h
  match cs, h with
  | [.slice none 0 0], h => exact ⟨[.slice none 0 0], ⟨rfl, rfl, by simp [Value.oneCell']⟩, trivial, Nat.zero_le _⟩
  | [.slice (some a) len cap], h => exact ⟨[.slice (some a) len cap], ⟨rfl, rfl, by simp [Value.oneCell']⟩, trivial, Nat.zero_le _⟩
theorem oU32 : Opb Tryz.prog 34 (Kd.int .u32) (fun x => 0 ≤ x ∧ x ≤ 4294967295) (fun _ => 1) := (Opb.int (by kernel_rfl) (by kernel_rfl)).imp (fun _ h => by simp only [Lit.wf, Bool.and_eq_true, decide_eq_true_eq] at h; exact h) (fun _ => Nat.le_refl _)
theorem oU64 : Opb Tryz.prog 35 (Kd.int .u64) (fun _ => True) (fun _ => 0) := (Opb.int (by kernel_rfl) (by kernel_rfl)).imp (fun _ _ => trivial) (fun _ => Nat.zero_le _)
theorem oU32s : Opb Tryz.prog 43 (Kd.slice 34 (Kd.int .u32)) (fun xs => ∀ x ∈ xs, 0 ≤ x ∧ x ≤ 4294967295) (fun xs => xs.length) := (Opb.slice (by kernel_rfl) (by kernel_rfl) oU32).imp (fun _ h => h) (fun _ => by rw [Bp3]; omega)
abbrev kMem := Kd.pair (Kd.int .u32) (Kd.pair (Kd.int .u32) (Kd.int .u64))
theorem oMem : Opb Tryz.prog 37 kMem (fun _ => True) (fun _ => 0) := (Opb.struct Tryz.underlying37 (by kernel_rfl) (OpbF.cons oU32 rfl rfl (OpbF.cons oU32 rfl rfl (OpbF.last oU64 rfl)))).imp (fun _ _ => trivial) (fun _ => Nat.zero_le _)
theorem Bl3 {xs : List Value} (h : xs.length = 1) : ∃ v, xs = [v] := by
 match xs, h with
 | [v], _ => exact ⟨v, rfl⟩
abbrev By6 := Kd.pair (Kd.int .i64) (Kd.pair (Kd.int .u32) (Kd.int .u32))
def Bs3 (x : Int × Int × Int) : Prop := (0 ≤ x.2.1 ∧ x.2.1 ≤ 4294967295) ∧ (0 ≤ x.2.2 ∧ x.2.2 ≤ 4294967295)
theorem oCatch : Opb Tryz.prog 89 By6 Bs3 (fun _ => 1) := (Opb.struct Tryz.underlying89 (by kernel_rfl) (OpbF.cons (Opb.int Tryz.underlying3 (by kernel_rfl)) rfl rfl (OpbF.cons oU32 rfl rfl (OpbF.last oU32 rfl)))).imp (fun _ h => h.2) (fun _ => by omega)
theorem oCatches : Opb Tryz.prog 44 (Kd.slice 89 By6) (fun xs => ∀ x ∈ xs, Bs3 x) (fun xs => xs.length) := (Opb.slice Tryz.underlying44 (by kernel_rfl) oCatch).imp (fun _ h => h) (fun _ => by rw [Bp3]; omega)
abbrev Ci7 := Kd.pair (Kd.int .i64) (Kd.pair (Kd.int .u32) (Kd.pair (Kd.int .u32) (Kd.pair (Kd.int .u64) (Kd.pair kMem (Kd.pair Ci8 (Kd.pair (Kd.raw 1) (Kd.pair (Kd.raw 1) (Kd.pair Kd.bool (Kd.pair (Kd.slice 34 (Kd.int .u32)) (Kd.pair (Kd.raw 1) (Kd.slice 89 By6)))))))))))
theorem oInstrC : Opb Tryz.prog 46 Ci7 (fun x => (0 ≤ x.2.1 ∧ x.2.1 ≤ 4294967295) ∧ (0 ≤ x.2.2.1 ∧ x.2.2.1 ≤ 4294967295) ∧ (∀ n ∈ x.2.2.2.2.2.2.2.2.2.1, 0 ≤ n ∧ n ≤ 4294967295) ∧ NV64 x.1 ∧ NV64 x.2.2.2.2.2.1.1 ∧ ∀ y ∈ x.2.2.2.2.2.2.2.2.2.2.2, Bs3 y) (fun x => x.2.2.2.2.2.2.2.2.2.1.length + x.2.2.2.2.2.2.2.2.2.2.2.length) :=
 (Opb.struct Tryz.underlying46 (by kernel_rfl) (OpbF.cons ((Opb.int Tryz.underlying3 (by kernel_rfl)).imp (B' := NV64) (bk' := fun _ => 0) (fun _ h => Ay1 h) (fun _ => Nat.zero_le _)) rfl rfl (OpbF.cons oU32 rfl rfl (OpbF.cons oU32 rfl rfl (OpbF.cons oU64 rfl rfl (OpbF.cons oMem rfl rfl (OpbF.cons oBlock rfl rfl (OpbF.cons (Bd3 Tryz.underlying42 (by kernel_rfl)) rfl rfl (OpbF.cons (Bd3 Tryz.underlying42 (by kernel_rfl)) rfl rfl (OpbF.cons Bu6 rfl rfl (OpbF.cons oU32s rfl rfl (OpbF.cons (Bd3 Tryz.underlying27 (by kernel_rfl)) rfl rfl (OpbF.last oCatches rfl))))))))))))).imp (fun _ h => ⟨h.2.1, h.2.2.1, h.2.2.2.2.2.2.2.2.2.1, h.1, h.2.2.2.2.2.1, h.2.2.2.2.2.2.2.2.2.2.2⟩) (fun _ => by omega)
theorem catch_at {w : World} {A : Option Addr} {n : Nat} {xs : List (Int × Int × Int)} (h : Kd.C By6 w A n xs) (hB : ∀ x ∈ xs, Bs3 x) (j : Nat) (hj : j < n) : ∃ (ad : Addr) (kd : Int) (tg lb : Nat), A = some ad ∧ tg ≤ 4294967295 ∧ lb ≤ 4294967295 ∧ w.cell? (ad.add (j * 3)) = some (.int .i64 kd) ∧ w.cell? ⟨(ad.add (j * 3)).block, (ad.add (j * 3)).off + 1, none⟩ = some (.int .u32 tg) ∧ w.cell? ⟨(ad.add (j * 3)).block, (ad.add (j * 3)).off + 2, none⟩ = some (.int .u32 lb) := by
 have hl := h.1
 obtain ⟨ad, c, e, _, hK, hc0⟩ := Kd.Bh6 h (0, 0, 0) (j : Int) (by omega) (by omega)
 rw [Int.toNat_natCast] at hK hc0
 have hm : xs.getD j (0, 0, 0) ∈ xs := by
  rw [List.getD_eq_getElem?_getD, List.getElem?_eq_getElem (by omega)]
  exact List.getElem_mem _
 have hb := hB _ hm
 obtain ⟨y, hy⟩ : ∃ y, y = xs.getD j (0, 0, 0) := ⟨_, rfl⟩
 rw [← hy] at hK hb
 obtain ⟨x0, x1, x2⟩ := y
 clear hm hy
 have hc : ∀ i u, c[i]? = some u → w.cell? (ad.add (j * 3 + i)) = some u := hc0
 obtain ⟨_, _, rfl, rfl, _, _, rfl, rfl, rfl⟩ := hK
 obtain ⟨⟨h1, h2⟩, h3, h4⟩ := hb
 dsimp only at h1 h2 h3 h4
 obtain ⟨tg, rfl⟩ := Int.eq_ofNat_of_zero_le h1
 obtain ⟨lb, rfl⟩ := Int.eq_ofNat_of_zero_le h3
 exact ⟨ad, x0, tg, lb, e, by omega, by omega, hc 0 _ rfl, by rw [← Ad2 _ _ 1 (by omega)]; exact hc 1 _ rfl, by rw [← Ad2 _ _ 2 (by omega)]; exact hc 2 _ rfl⟩
theorem Bw2 {W : World} {x : Int × Int × Int × Int × (Int × Int × Int) × (Int × S39) × List Value × List Value × Bool × List Int × List Value × List (Int × Int × Int)} {cs : List Value} (h : Ci7.K W x cs)
  (hx : 0 ≤ x.2.1 ∧ x.2.1 ≤ 4294967295) (hy : 0 ≤ x.2.2.1 ∧ x.2.2.1 ≤ 4294967295) (ht : NV64 x.2.2.2.2.2.1.1) (hB : ∀ y ∈ x.2.2.2.2.2.2.2.2.2.2.2, Bs3 y) (hn : x.2.2.2.2.2.2.2.2.2.2.2.length ≤ 1048576) :
  ∃ (I : IX) (A : Option Addr) (c : Nat), cs = [.int .i64 I.op, .int .u32 I.x, .int .u32 I.y, I.v3, I.v4, I.v5, I.v6, I.v7, I.v8, I.v9, I.v10, I.v11, I.v12, I.v13, .slice I.AL I.ls.length I.cL, I.v15, I.v16] ∧ I.op = x.1 ∧ I.x ≤ 4294967295 ∧ I.y ≤ 4294967295 ∧ I.ls = x.2.2.2.2.2.2.2.2.2.1 ∧ Kd.C (Kd.int .u32) W I.AL I.ls.length I.ls ∧ I.ls.length ≤ I.cL ∧ IB I x.2.2.2.2.2.1.1 x.2.2.2.2.2.1.2 ∧ CaR W I A x.2.2.2.2.2.2.2.2.2.2.2.length c := by
 obtain ⟨x0, x1, x2, x3, xm, xb, x6, x7, x8, x9, x10, x11⟩ := x
 obtain ⟨_, _, rfl, rfl, _, _, rfl, rfl, _, _, rfl, rfl, _, _, rfl, rfl, _, _, rfl, hm, _, _, rfl, hbk, _, _, rfl, h6, _, _, rfl, h7, _, _, rfl, rfl, _, _, rfl, ⟨AL, cL, rfl, hl, hC⟩, _, _, rfl, h10, ⟨AC, cC, rfl, hlC, hCC⟩⟩ := h
 obtain ⟨_, _, rfl, rfl, _, _, rfl, rfl, rfl⟩ := hm
 obtain rfl := Ce0 hbk
 obtain ⟨rfl, l6, _⟩ := h6
 obtain ⟨rfl, l7, _⟩ := h7
 obtain ⟨rfl, l10, _⟩ := h10
 obtain ⟨v6, rfl⟩ := Bl3 l6
 obtain ⟨v7, rfl⟩ := Bl3 l7
 obtain ⟨v10, rfl⟩ := Bl3 l10
 dsimp only at hx hy ht hB hn
 obtain ⟨n, hn'⟩ := Int.eq_ofNat_of_zero_le hx.1
 obtain ⟨m, hm⟩ := Int.eq_ofNat_of_zero_le hy.1
 subst hn' hm
 exact ⟨⟨x0, n, m, _, _, _, _, _, _, _, _, v6, v7, _, AL, x9, cL, v10, _⟩, AC, cC, rfl, rfl, by dsimp only; omega, by dsimp only; omega, rfl, hC, hl, ⟨rfl, rfl, rfl, rfl, ht⟩, ⟨rfl, hlC, hn, fun j hj => catch_at hCC hB j hj⟩⟩
end Go.Proofs.YtohlmkcgempdlaaGreatDoor.Cx
namespace Go.Proofs.YtohlmkcgempdlaaGreatDoor.Cn
open Go.RowKit Go.Maps Go.Proofs.YtohlmkcgempdlaaGreatDoorW.PrintWords Go.Proofs.YtohlmkcgempdlaaGreatDoorW.PrintLast Go.Proofs.YtohlmkcgempdlaaGreatDoor.QD
theorem Cc0 {h : Nat} {ops : List S39} (hh : ops.length = h) : popM h true ops = (0, v0, ops) := by
 unfold popM
 rw [if_neg (by omega)]
 rfl
theorem Bu4 (l : List S132) {h : Nat} {ops : List S39} (hh : ops.length = h) (v : S39) : Ap5 l h true ops v = (0, v0, ops) := by
 have hm : matM l v0 v := by simp [matM, v0]
 unfold Ap5
 rw [Cc0 hh]
 simp [hm]
theorem Bu2 (l : List S132) {h : Nat} {ops : List S39} (hh : ops.length = h) (vs : List S39) : Ah5 l h true vs ops = (0, ops) := by
 induction vs with
 | nil => rfl
 | cons v vs ih =>
  unfold Ah5
  rw [Bu4 l hh]
  simp [ih]
theorem Bu3 (l : List S132) {h : Nat} {ops : List S39} (hh : ops.length = h) (vs : List S39) : Al5 l h true vs ops = (0, ops) := by
 unfold Al5
 rw [Bu2 l hh]
 simp
end Go.Proofs.YtohlmkcgempdlaaGreatDoor.Cn
namespace Go.Proofs.YtohlmkcgempdlaaGreatDoor.Cn
set_option linter.unusedSimpArgs false
set_option maxRecDepth 100000
set_option linter.unusedVariables false
open Go.RowKit Go.Maps Go.Proofs.YtohlmkcgempdlaaGreatDoorW.PrintWords Go.Proofs.YtohlmkcgempdlaaGreatDoorW.PrintLast Go.Proofs.YtohlmkcgempdlaaGreatDoorW.PrintMore Go.Proofs.YtohlmkcgempdlaaGreatDoor.QD
section
variable {E : Nat → Prop} {d : Nat} {k : Chk} {w : World}
set_option maxHeartbeats 2000000 in
theorem Cb8 (h : R13 E d k w) (hg : GOk k.l) (a b : S39) (hz0 : a.f0 = 0) :
  Calls Tryz.prog 124 #[.pointer (some ⟨d, 0, none⟩), .agg #[.int .i64 a.f0, .bool a.f1, .int .i64 a.f2], .agg #[.int .i64 b.f0, .bool b.f1, .int .i64 b.f2]] w fun e w' => e = .returned (.bool true) ∧ Below w.heap.size w w' := by
 have ba : Below w.heap.size w ((w.alloc (.cells #[.int .i64 a.f0, .bool a.f1, .int .i64 a.f2] 39)).alloc (.cells #[.int .i64 b.f0, .bool b.f1, .int .i64 b.f2] 39)).drew := ((bz_).alloc (by simp) _).drew
 have BA := zA ba
 have H1 := h.below ba
 obtain ⟨vl, vlo, vs, vst, vf, vr, h1⟩ := H1
 obtain ⟨A, c, rfl⟩ := h1.lst.slice
 have LA1 := zA (hg.la h1.lst)
 have HG := zA hg
 have c1 : Aa2 ((((w.alloc (.cells #[.int .i64 a.f0, .bool a.f1, .int .i64 a.f2] 39)).alloc (.cells #[.int .i64 b.f0, .bool b.f1, .int .i64 b.f2] 39)).drew).cell? ⟨d, 0, none⟩ = some (.slice A k.l.length c)) := ⟨(Aa0 h1.box 0).trans rfl⟩
 have q0 := Aa5 (Aa6 w (.cells #[.int .i64 a.f0, .bool a.f1, .int .i64 a.f2] 39)) (.cells #[.int .i64 b.f0, .bool b.f1, .int .i64 b.f2] 39)
 have q1 := Aa6 (w.alloc (.cells #[.int .i64 a.f0, .bool a.f1, .int .i64 a.f2] 39)) (.cells #[.int .i64 b.f0, .bool b.f1, .int .i64 b.f2] 39)
 rw [World.size_alloc] at q1
 have Q := zA (And.intro q0 q1)
 have g0 : (a.f0 == 0) = true := by simp [hz0]
 clear hz0
 clear h hg ba h1 q0 q1
 go_enter Tryz.func124, Tryz.ntmps124
 go_wp2_with fail
 refine Ab3 (n := 18) (S := fun w' => w'.cell? ⟨d, 0, none⟩ = some (.slice A k.l.length c) ∧ w'.cell? ⟨w.heap.size, 0, none⟩ = some (.int .i64 a.f0) ∧ w'.cell? ⟨w.heap.size, 1, none⟩ = some (.bool a.f1) ∧ w'.cell? ⟨w.heap.size, 2, none⟩ = some (.int .i64 a.f2) ∧ w'.cell? ⟨w.heap.size + 1, 0, none⟩ = some (.int .i64 b.f0) ∧ w'.cell? ⟨w.heap.size + 1, 1, none⟩ = some (.bool b.f1) ∧ w'.cell? ⟨w.heap.size + 1, 2, none⟩ = some (.int .i64 b.f2)) (ds := []) (bm_ 18 0) (by kernel_rfl) rfl rfl ⟨c1.out, (Aa0 (w := ((w.alloc _).alloc _).drew) Q.out.1 0).trans rfl, (Aa0 (w := ((w.alloc _).alloc _).drew) Q.out.1 1).trans rfl, (Aa0 (w := ((w.alloc _).alloc _).drew) Q.out.1 2).trans rfl, (Aa0 (w := ((w.alloc _).alloc _).drew) Q.out.2 0).trans rfl, (Aa0 (w := ((w.alloc _).alloc _).drew) Q.out.2 1).trans rfl, (Aa0 (w := ((w.alloc _).alloc _).drew) Q.out.2 2).trans rfl⟩ (fun hHeld => ?_)
 refine pz_ 0 7 18 1 ?_
 refine tz_ 1 8 18 3 hHeld ?_
 refine pz_ 2 9 18 7 ?_
 refine pz_ 3 10 18 15 ?_
 refine uz_ 4 11 18 31 ?_
 refine uz_ 5 12 18 63 ?_
 refine uz_ 6 13 18 127 ?_
 refine pz_ 7 14 18 255 ?_
 refine pz_ 8 15 18 511 ?_
 refine uz_ 9 16 18 1023 ?_
 refine uz_ 10 17 18 2047 ?_
 refine uz_ 11 18 18 4095 ?_
 refine uz_ 12 19 18 8191 ?_
 refine uz_ 13 20 18 16383 ?_
 refine uz_ 14 21 18 32767 ?_
 refine uz_ 15 22 18 65535 ?_
 refine pz_ 16 23 18 131071 ?_
 refine pz_ 17 6 18 262143 ?_
 refine dz_ ?_

 go_wp2_with fail
 go_ret
 exact ⟨rfl, BA.out⟩
set_option maxHeartbeats 2000000 in
theorem Cb7 (h : R13 E d k w) (hg : GOk k.l) (a b : S39) (hz0 : ¬ a.f0 = 0) (hz1 : b.f0 = 0) :
  Calls Tryz.prog 124 #[.pointer (some ⟨d, 0, none⟩), .agg #[.int .i64 a.f0, .bool a.f1, .int .i64 a.f2], .agg #[.int .i64 b.f0, .bool b.f1, .int .i64 b.f2]] w fun e w' => e = .returned (.bool true) ∧ Below w.heap.size w w' := by
 have ba : Below w.heap.size w ((w.alloc (.cells #[.int .i64 a.f0, .bool a.f1, .int .i64 a.f2] 39)).alloc (.cells #[.int .i64 b.f0, .bool b.f1, .int .i64 b.f2] 39)).drew := ((bz_).alloc (by simp) _).drew
 have BA := zA ba
 have H1 := h.below ba
 obtain ⟨vl, vlo, vs, vst, vf, vr, h1⟩ := H1
 obtain ⟨A, c, rfl⟩ := h1.lst.slice
 have LA1 := zA (hg.la h1.lst)
 have HG := zA hg
 have c1 : Aa2 ((((w.alloc (.cells #[.int .i64 a.f0, .bool a.f1, .int .i64 a.f2] 39)).alloc (.cells #[.int .i64 b.f0, .bool b.f1, .int .i64 b.f2] 39)).drew).cell? ⟨d, 0, none⟩ = some (.slice A k.l.length c)) := ⟨(Aa0 h1.box 0).trans rfl⟩
 have q0 := Aa5 (Aa6 w (.cells #[.int .i64 a.f0, .bool a.f1, .int .i64 a.f2] 39)) (.cells #[.int .i64 b.f0, .bool b.f1, .int .i64 b.f2] 39)
 have q1 := Aa6 (w.alloc (.cells #[.int .i64 a.f0, .bool a.f1, .int .i64 a.f2] 39)) (.cells #[.int .i64 b.f0, .bool b.f1, .int .i64 b.f2] 39)
 rw [World.size_alloc] at q1
 have Q := zA (And.intro q0 q1)
 have g0 : (a.f0 == 0) = false := by simp [hz0]
 have g1 : (b.f0 == 0) = true := by simp [hz1]
 clear hz0 hz1
 clear h hg ba h1 q0 q1
 go_enter Tryz.func124, Tryz.ntmps124
 go_wp2_with fail
 refine Ab3 (n := 18) (S := fun w' => w'.cell? ⟨d, 0, none⟩ = some (.slice A k.l.length c) ∧ w'.cell? ⟨w.heap.size, 0, none⟩ = some (.int .i64 a.f0) ∧ w'.cell? ⟨w.heap.size, 1, none⟩ = some (.bool a.f1) ∧ w'.cell? ⟨w.heap.size, 2, none⟩ = some (.int .i64 a.f2) ∧ w'.cell? ⟨w.heap.size + 1, 0, none⟩ = some (.int .i64 b.f0) ∧ w'.cell? ⟨w.heap.size + 1, 1, none⟩ = some (.bool b.f1) ∧ w'.cell? ⟨w.heap.size + 1, 2, none⟩ = some (.int .i64 b.f2)) (ds := []) (bm_ 18 0) (by kernel_rfl) rfl rfl ⟨c1.out, (Aa0 (w := ((w.alloc _).alloc _).drew) Q.out.1 0).trans rfl, (Aa0 (w := ((w.alloc _).alloc _).drew) Q.out.1 1).trans rfl, (Aa0 (w := ((w.alloc _).alloc _).drew) Q.out.1 2).trans rfl, (Aa0 (w := ((w.alloc _).alloc _).drew) Q.out.2 0).trans rfl, (Aa0 (w := ((w.alloc _).alloc _).drew) Q.out.2 1).trans rfl, (Aa0 (w := ((w.alloc _).alloc _).drew) Q.out.2 2).trans rfl⟩ (fun hHeld => ?_)
 refine pz_ 0 7 18 1 ?_
 refine tz_ 1 8 18 3 hHeld ?_
 refine pz_ 2 9 18 7 ?_
 refine pz_ 3 10 18 15 ?_
 refine pz_ 4 11 18 31 ?_
 refine tz_ 5 12 18 63 hHeld ?_
 refine pz_ 6 13 18 127 ?_
 refine pz_ 7 14 18 255 ?_
 refine pz_ 8 15 18 511 ?_
 refine uz_ 9 16 18 1023 ?_
 refine uz_ 10 17 18 2047 ?_
 refine uz_ 11 18 18 4095 ?_
 refine uz_ 12 19 18 8191 ?_
 refine uz_ 13 20 18 16383 ?_
 refine uz_ 14 21 18 32767 ?_
 refine uz_ 15 22 18 65535 ?_
 refine pz_ 16 23 18 131071 ?_
 refine pz_ 17 6 18 262143 ?_
 refine dz_ ?_

 go_wp2_with fail
 go_ret
 exact ⟨rfl, BA.out⟩
set_option maxHeartbeats 2000000 in
theorem Cb6 (h : R13 E d k w) (hg : GOk k.l) (a b : S39) (hz0 : ¬ a.f0 = 0) (hz1 : ¬ b.f0 = 0) :
  Calls Tryz.prog 124 #[.pointer (some ⟨d, 0, none⟩), .agg #[.int .i64 a.f0, .bool a.f1, .int .i64 a.f2], .agg #[.int .i64 b.f0, .bool b.f1, .int .i64 b.f2]] w fun e w' => e = .returned (.bool (valM k.l a b)) ∧ Below w.heap.size w w' := by
 have ba : Below w.heap.size w ((w.alloc (.cells #[.int .i64 a.f0, .bool a.f1, .int .i64 a.f2] 39)).alloc (.cells #[.int .i64 b.f0, .bool b.f1, .int .i64 b.f2] 39)).drew := ((bz_).alloc (by simp) _).drew
 have BA := zA ba
 have H1 := h.below ba
 obtain ⟨vl, vlo, vs, vst, vf, vr, h1⟩ := H1
 obtain ⟨A, c, rfl⟩ := h1.lst.slice
 have LA1 := zA (hg.la h1.lst)
 have HG := zA hg
 have c1 : Aa2 ((((w.alloc (.cells #[.int .i64 a.f0, .bool a.f1, .int .i64 a.f2] 39)).alloc (.cells #[.int .i64 b.f0, .bool b.f1, .int .i64 b.f2] 39)).drew).cell? ⟨d, 0, none⟩ = some (.slice A k.l.length c)) := ⟨(Aa0 h1.box 0).trans rfl⟩
 have q0 := Aa5 (Aa6 w (.cells #[.int .i64 a.f0, .bool a.f1, .int .i64 a.f2] 39)) (.cells #[.int .i64 b.f0, .bool b.f1, .int .i64 b.f2] 39)
 have q1 := Aa6 (w.alloc (.cells #[.int .i64 a.f0, .bool a.f1, .int .i64 a.f2] 39)) (.cells #[.int .i64 b.f0, .bool b.f1, .int .i64 b.f2] 39)
 rw [World.size_alloc] at q1
 have Q := zA (And.intro q0 q1)
 have g0 : (a.f0 == 0) = false := by simp [hz0]
 have g1 : (b.f0 == 0) = false := by simp [hz1]
 clear hz0 hz1
 clear h hg ba h1 q0 q1
 go_enter Tryz.func124, Tryz.ntmps124
 go_wp2_with fail
 refine Ab3 (n := 18) (S := fun w' => w'.cell? ⟨d, 0, none⟩ = some (.slice A k.l.length c) ∧ w'.cell? ⟨w.heap.size, 0, none⟩ = some (.int .i64 a.f0) ∧ w'.cell? ⟨w.heap.size, 1, none⟩ = some (.bool a.f1) ∧ w'.cell? ⟨w.heap.size, 2, none⟩ = some (.int .i64 a.f2) ∧ w'.cell? ⟨w.heap.size + 1, 0, none⟩ = some (.int .i64 b.f0) ∧ w'.cell? ⟨w.heap.size + 1, 1, none⟩ = some (.bool b.f1) ∧ w'.cell? ⟨w.heap.size + 1, 2, none⟩ = some (.int .i64 b.f2)) (ds := [15]) (bm_ 18 0) (by kernel_rfl) rfl rfl ⟨c1.out, (Aa0 (w := ((w.alloc _).alloc _).drew) Q.out.1 0).trans rfl, (Aa0 (w := ((w.alloc _).alloc _).drew) Q.out.1 1).trans rfl, (Aa0 (w := ((w.alloc _).alloc _).drew) Q.out.1 2).trans rfl, (Aa0 (w := ((w.alloc _).alloc _).drew) Q.out.2 0).trans rfl, (Aa0 (w := ((w.alloc _).alloc _).drew) Q.out.2 1).trans rfl, (Aa0 (w := ((w.alloc _).alloc _).drew) Q.out.2 2).trans rfl⟩ (fun hHeld => ?_)
 refine pz_ 0 7 18 1 ?_
 refine tz_ 1 8 18 3 hHeld ?_
 refine pz_ 2 9 18 7 ?_
 refine pz_ 3 10 18 15 ?_
 refine pz_ 4 11 18 31 ?_
 refine tz_ 5 12 18 63 hHeld ?_
 refine pz_ 6 13 18 127 ?_
 refine pz_ 7 14 18 255 ?_
 refine pz_ 8 15 18 511 ?_
 refine pz_ 9 16 18 1023 ?_
 refine pz_ 10 17 18 2047 ?_
 refine pz_ 11 18 18 4095 ?_
 refine tz_ 12 19 18 8191 hHeld ?_
 refine tz_ 13 20 18 16383 hHeld ?_
 refine tz_ 14 21 18 32767 hHeld ?_
 refine lz_ 15 22 18 65535 fun K hK => ?_
 refine gz_ Tryz.func133 #[.slice A k.l.length c, .agg #[.int .i64 a.f0, .bool a.f1, .int .i64 a.f2], .agg #[.int .i64 b.f0, .bool b.f1, .int .i64 b.f2]] ?_
 with_reducible refine (Bt5 A c k.l a b _ LA1.out HG.out.clo).mono ?_
 rintro e w3 ⟨rfl, hb3⟩
 have B3 := zA (BA.out.trans (hb3.mono BA.out.size))
 clear hb3
 refine ⟨_, rfl, ?_⟩
 refine hK.out _ _ ?_
 clear hK K
 refine nz_ ?_
 refine pz_ 16 23 18 131071 ?_
 refine pz_ 17 6 18 262143 ?_
 refine dz_ ?_

 go_wp2_with fail
 go_ret
 exact ⟨rfl, B3.out⟩
theorem At5 (h : R13 E d k w) (hg : GOk k.l) (a b : S39) :
  Calls Tryz.prog 124 #[.pointer (some ⟨d, 0, none⟩), .agg #[.int .i64 a.f0, .bool a.f1, .int .i64 a.f2], .agg #[.int .i64 b.f0, .bool b.f1, .int .i64 b.f2]] w fun e w' => e = .returned (.bool (matM k.l a b)) ∧ Below w.heap.size w w' := by
 unfold matM
 by_cases h0 : a.f0 = 0
 ·simpa [h0] using Cb8 h hg a b h0
 ·by_cases h1 : b.f0 = 0
  ·simpa [h0, h1] using Cb7 h hg a b h0 h1
  ·have := Cb6 h hg a b h0 h1
   rw [decide_eq_false h0, decide_eq_false h1, Bool.false_or, Bool.false_or]
   exact this
end
end Go.Proofs.YtohlmkcgempdlaaGreatDoor.Cn
