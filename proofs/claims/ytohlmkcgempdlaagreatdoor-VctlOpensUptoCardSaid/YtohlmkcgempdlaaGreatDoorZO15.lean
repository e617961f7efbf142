/- Parts of the proof of vctlOpens_holds (15 of 22): what it says and shows stands at its declarations. -/
import Derived.Test.YtohlmkcgempdlaaGreatDoorZO14
import Derived.LoopTactic
namespace Go.Proofs.YtohlmkcgempdlaaGreatDoor.Cn
set_option linter.unusedSimpArgs false
set_option maxRecDepth 100000
set_option linter.unusedVariables false
open Go.RowKit Go.Maps Go.Proofs.YtohlmkcgempdlaaGreatDoorW.PrintWords Go.Proofs.YtohlmkcgempdlaaGreatDoorW.PrintLast Go.Proofs.YtohlmkcgempdlaaGreatDoorW.PrintMore Go.Proofs.YtohlmkcgempdlaaGreatDoor.QD
theorem info105 : (Tryz.prog.info? 105).map (fun i => (i.zero, i.size, i.bytes)) = some (some (.agg #[.int .i64 0, .slice none 0 0, .slice none 0 0, .int .i64 0, .slice none 0 0, .bool false]), 6, 96) := by kernel_rfl
set_option maxHeartbeats 2000000 in
theorem Bq1 (ok : Nat → Prop) (g j : Nat) (cells : Array Value) (t : Nat) (x : S39) (A : Option Addr) (c : Nat) (xs : List (List Value)) (w : World) (hbox : w.heap[g]? = some (.cells cells t (0, 0))) (hj : cells[j]? = some (.slice A xs.length c)) (hcr : CR 3 39 ok w A c xs) (ht : 39 ≠ t) (hl : xs.length ≤ 4294967296) :
  Calls Tryz.prog 72 #[.pointer (some ⟨g, j, none⟩), .agg #[.int .i64 x.f0, .bool x.f1, .int .i64 x.f2]] w (Au9 3 39 ok g j cells t A xs [.int .i64 x.f0, .bool x.f1, .int .i64 x.f2] c w) := by
 have HBOX := zA hbox
 have HJ := zA hj
 have HCR := zA hcr
 have HL : Aa2 ((xs.length + 1) * 24 ≤ 140737488355328) := ⟨by omega⟩
 have HT := zA ht
 clear hbox hj hcr hl ht
 go_enter Tryz.func72, Tryz.ntmps72
 go_wp2_with fail
 obtain ⟨w7, hw7⟩ : ∃ w7, w7 = World.drew (w.alloc (.cells #[.int .i64 x.f0, .bool x.f1, .int .i64 x.f2] 39)) := ⟨_, rfl⟩
 have B7 : Aa2 (Below w.heap.size w w7) := ⟨by rw [hw7]; exact (bz_).drew⟩
 have HB7 : Aa2 (w7.heap[w.heap.size]? = some (.cells #[.int .i64 x.f0, .bool x.f1, .int .i64 x.f2] 39 (0, 0))) := ⟨by rw [hw7]; exact Aa6 w _⟩
 have G7 : Aa2 (w7.heap[g]? = some (.cells cells t (0, 0))) := ⟨Aa3 HBOX.out B7.out⟩
 have C7 : Aa2 (CR 3 39 ok w7 A c xs) := ⟨HCR.out.step (fun k _ hk => B7.out.block k hk)⟩
 have hS7 : w7.cell? ⟨g, j, none⟩ = some (.slice A xs.length c) := (Aa0 G7.out j).trans HJ.out
 have hb0 : w7.cell? ⟨w.heap.size, 0, none⟩ = some (.int .i64 x.f0) := (Aa0 HB7.out 0).trans rfl
 have hb1 : w7.cell? ⟨w.heap.size, 1, none⟩ = some (.bool x.f1) := (Aa0 HB7.out 1).trans rfl
 have hb2 : w7.cell? ⟨w.heap.size, 2, none⟩ = some (.int .i64 x.f2) := (Aa0 HB7.out 2).trans rfl
 have A7 := zA (And.intro ((Aa0 (Aa5 G7.out (.cells #[.int .i64 x.f0, .bool x.f1, .int .i64 x.f2] 39)) j).trans HJ.out) (Aa5 HB7.out (.cells #[.int .i64 x.f0, .bool x.f1, .int .i64 x.f2] 39)))
 skip
 refine Ab3 (n := 11) (S := fun w' => w'.cell? ⟨g, j, none⟩ = some (.slice A xs.length c) ∧ w'.cell? ⟨w.heap.size, 0, none⟩ = some (.int .i64 x.f0) ∧ w'.cell? ⟨w.heap.size, 1, none⟩ = some (.bool x.f1) ∧ w'.cell? ⟨w.heap.size, 2, none⟩ = some (.int .i64 x.f2)) (ds := [10]) (bm_ 11 0) (by kernel_rfl) rfl rfl ⟨(by rw [← hw7]; exact hS7), (by rw [← hw7]; exact hb0), (by rw [← hw7]; exact hb1), (by rw [← hw7]; exact hb2)⟩ (fun hHeld => ?_)
 rw [← hw7] at hHeld ⊢
 clear hw7
 refine pz_ 0 4 11 1 ?_
 refine pz_ 1 5 11 3 ?_
 refine pz_ 2 6 11 7 ?_
 refine pz_ 3 7 11 15 ?_
 refine tz_ 4 8 11 31 hHeld ?_
 refine tz_ 5 9 11 63 hHeld ?_
 refine oz_ 6 10 11 127 fun K hK => ?_
 refine vz_ ?_
 refine hK.out _ _ ⟨A7.out.1, (Aa0 A7.out.2 0).trans rfl, (Aa0 A7.out.2 1).trans rfl, (Aa0 A7.out.2 2).trans rfl⟩ (fun hHeld => ?_)
 clear hK K
 refine nz_ ?_
 refine oz_ 7 11 11 255 fun K hK => ?_
 refine CR.push_step (ok := ok) (A := A) (c := c) (xs := xs) (by rfl) (.tmp 8) (.tmp 10) 27 (.agg #[.int .i64 0, .bool false, .int .i64 0]) 24 (cs := [.int .i64 x.f0, .bool x.f1, .int .i64 x.f2]) rfl Tryz.underlying27 Am5 rfl (by decide) (by decide) C7.out rfl rfl rfl (by simp [Value.oneCell']) HL.out ?_
 intro A' c' w8 hcr hch
 have PO := zA (Au9.mk (j := j) HCR.out HBOX.out HT.out B7.out hcr hch)
 have G8 := zA (hch.blk G7.out (fun e => C7.out.ne G7.out HT.out e.1))
 have N8 := zA (hch.blk HB7.out (fun e => by have := (HCR.out.blk _ e.1).2.1; omega))
 clear hcr hch
 refine hK.out _ _ ⟨(Aa0 G8.out j).trans HJ.out, (Aa0 N8.out 0).trans rfl, (Aa0 N8.out 1).trans rfl, (Aa0 N8.out 2).trans rfl⟩ (fun hHeld => ?_)
 clear hK K
 refine nz_ ?_
 refine pz_ 8 12 11 511 ?_
 refine pz_ 9 13 11 1023 ?_
 refine Ag8 (i := 10) (N := none) (bm_ 11 2047) rfl rfl (by kernel_rfl) (by decide) (fun K hK => ?_)
 have hs_ : w8.cell? ⟨g, j, none⟩ = some (.slice A xs.length c) := (Aa0 G8.out j).trans HJ.out
 have hfs_ : w8.frozen? ⟨g, j, none⟩ = false := Aa1 G8.out j
 refine sz_ ?_
 refine hK.out _ _ ?_
 clear hK K
 refine dz_ ?_

 go_wp2_with fail
 refine bodyPost_end (results_none (by kernel_rfl) _ _ _) rfl ?_
 exact PO.out
set_option maxHeartbeats 2000000 in
theorem Bq2 (ok : Nat → Prop) (g j : Nat) (cells : Array Value) (t : Nat) (op h : Int) (dead : Bool) (A1 A2 A3 : Option Addr) (n1 n2 n3 c1 c2 c3 : Nat) (A : Option Addr) (c : Nat) (xs : List (List Value)) (w : World) (hbox : w.heap[g]? = some (.cells cells t (0, 0))) (hj : cells[j]? = some (.slice A xs.length c)) (hcr : CR 6 105 ok w A c xs) (ht : 105 ≠ t) (hl : xs.length ≤ 4294967296) :
  Calls Tryz.prog 65 #[.pointer (some ⟨g, j, none⟩), .agg #[.int .i64 op, .slice A1 n1 c1, .slice A2 n2 c2, .int .i64 h, .slice A3 n3 c3, .bool dead]] w (Au9 6 105 ok g j cells t A xs [.int .i64 op, .slice A1 n1 c1, .slice A2 n2 c2, .int .i64 h, .slice A3 n3 c3, .bool dead] c w) := by
 have HBOX := zA hbox
 have HJ := zA hj
 have HCR := zA hcr
 have HL : Aa2 ((xs.length + 1) * 96 ≤ 140737488355328) := ⟨by omega⟩
 have HT := zA ht
 clear hbox hj hcr hl ht
 go_enter Tryz.func65, Tryz.ntmps65
 go_wp2_with fail
 obtain ⟨w7, hw7⟩ : ∃ w7, w7 = World.drew (w.alloc (.cells #[.int .i64 op, .slice A1 n1 c1, .slice A2 n2 c2, .int .i64 h, .slice A3 n3 c3, .bool dead] 105)) := ⟨_, rfl⟩
 have B7 : Aa2 (Below w.heap.size w w7) := ⟨by rw [hw7]; exact (bz_).drew⟩
 have HB7 : Aa2 (w7.heap[w.heap.size]? = some (.cells #[.int .i64 op, .slice A1 n1 c1, .slice A2 n2 c2, .int .i64 h, .slice A3 n3 c3, .bool dead] 105 (0, 0))) := ⟨by rw [hw7]; exact Aa6 w _⟩
 have G7 : Aa2 (w7.heap[g]? = some (.cells cells t (0, 0))) := ⟨Aa3 HBOX.out B7.out⟩
 have C7 : Aa2 (CR 6 105 ok w7 A c xs) := ⟨HCR.out.step (fun k _ hk => B7.out.block k hk)⟩
 have hS7 : w7.cell? ⟨g, j, none⟩ = some (.slice A xs.length c) := (Aa0 G7.out j).trans HJ.out
 have hb0 : w7.cell? ⟨w.heap.size, 0, none⟩ = some (.int .i64 op) := (Aa0 HB7.out 0).trans rfl
 have hb1 : w7.cell? ⟨w.heap.size, 1, none⟩ = some (.slice A1 n1 c1) := (Aa0 HB7.out 1).trans rfl
 have hb2 : w7.cell? ⟨w.heap.size, 2, none⟩ = some (.slice A2 n2 c2) := (Aa0 HB7.out 2).trans rfl
 have hb3 : w7.cell? ⟨w.heap.size, 3, none⟩ = some (.int .i64 h) := (Aa0 HB7.out 3).trans rfl
 have hb4 : w7.cell? ⟨w.heap.size, 4, none⟩ = some (.slice A3 n3 c3) := (Aa0 HB7.out 4).trans rfl
 have hb5 : w7.cell? ⟨w.heap.size, 5, none⟩ = some (.bool dead) := (Aa0 HB7.out 5).trans rfl
 have A7 := zA (And.intro ((Aa0 (Aa5 G7.out (.cells #[.int .i64 op, .slice A1 n1 c1, .slice A2 n2 c2, .int .i64 h, .slice A3 n3 c3, .bool dead] 105)) j).trans HJ.out) (Aa5 HB7.out (.cells #[.int .i64 op, .slice A1 n1 c1, .slice A2 n2 c2, .int .i64 h, .slice A3 n3 c3, .bool dead] 105)))
 skip
 refine Ab3 (n := 11) (S := fun w' => w'.cell? ⟨g, j, none⟩ = some (.slice A xs.length c) ∧ w'.cell? ⟨w.heap.size, 0, none⟩ = some (.int .i64 op) ∧ w'.cell? ⟨w.heap.size, 1, none⟩ = some (.slice A1 n1 c1) ∧ w'.cell? ⟨w.heap.size, 2, none⟩ = some (.slice A2 n2 c2) ∧ w'.cell? ⟨w.heap.size, 3, none⟩ = some (.int .i64 h) ∧ w'.cell? ⟨w.heap.size, 4, none⟩ = some (.slice A3 n3 c3) ∧ w'.cell? ⟨w.heap.size, 5, none⟩ = some (.bool dead)) (ds := [10]) (bm_ 11 0) (by kernel_rfl) rfl rfl ⟨(by rw [← hw7]; exact hS7), (by rw [← hw7]; exact hb0), (by rw [← hw7]; exact hb1), (by rw [← hw7]; exact hb2), (by rw [← hw7]; exact hb3), (by rw [← hw7]; exact hb4), (by rw [← hw7]; exact hb5)⟩ (fun hHeld => ?_)
 rw [← hw7] at hHeld ⊢
 clear hw7
 refine pz_ 0 4 11 1 ?_
 refine pz_ 1 5 11 3 ?_
 refine pz_ 2 6 11 7 ?_
 refine pz_ 3 7 11 15 ?_
 refine tz_ 4 8 11 31 hHeld ?_
 refine tz_ 5 9 11 63 hHeld ?_
 refine oz_ 6 10 11 127 fun K hK => ?_
 refine vz_ ?_
 refine hK.out _ _ ⟨A7.out.1, (Aa0 A7.out.2 0).trans rfl, (Aa0 A7.out.2 1).trans rfl, (Aa0 A7.out.2 2).trans rfl, (Aa0 A7.out.2 3).trans rfl, (Aa0 A7.out.2 4).trans rfl, (Aa0 A7.out.2 5).trans rfl⟩ (fun hHeld => ?_)
 clear hK K
 refine nz_ ?_
 refine oz_ 7 11 11 255 fun K hK => ?_
 refine CR.push_step (ok := ok) (A := A) (c := c) (xs := xs) (by rfl) (.tmp 8) (.tmp 10) 98 (.agg #[.int .i64 0, .slice none 0 0, .slice none 0 0, .int .i64 0, .slice none 0 0, .bool false]) 96 (cs := [.int .i64 op, .slice A1 n1 c1, .slice A2 n2 c2, .int .i64 h, .slice A3 n3 c3, .bool dead]) rfl Tryz.underlying98 info105 rfl (by decide) (by decide) C7.out rfl rfl rfl (by simp [Value.oneCell']) HL.out ?_
 intro A' c' w8 hcr hch
 have PO := zA (Au9.mk (j := j) HCR.out HBOX.out HT.out B7.out hcr hch)
 have G8 := zA (hch.blk G7.out (fun e => C7.out.ne G7.out HT.out e.1))
 have N8 := zA (hch.blk HB7.out (fun e => by have := (HCR.out.blk _ e.1).2.1; omega))
 clear hcr hch
 refine hK.out _ _ ⟨(Aa0 G8.out j).trans HJ.out, (Aa0 N8.out 0).trans rfl, (Aa0 N8.out 1).trans rfl, (Aa0 N8.out 2).trans rfl, (Aa0 N8.out 3).trans rfl, (Aa0 N8.out 4).trans rfl, (Aa0 N8.out 5).trans rfl⟩ (fun hHeld => ?_)
 clear hK K
 refine nz_ ?_
 refine pz_ 8 12 11 511 ?_
 refine pz_ 9 13 11 1023 ?_
 refine Ag8 (i := 10) (N := none) (bm_ 11 2047) rfl rfl (by kernel_rfl) (by decide) (fun K hK => ?_)
 have hs_ : w8.cell? ⟨g, j, none⟩ = some (.slice A xs.length c) := (Aa0 G8.out j).trans HJ.out
 have hfs_ : w8.frozen? ⟨g, j, none⟩ = false := Aa1 G8.out j
 refine sz_ ?_
 refine hK.out _ _ ?_
 clear hK K
 refine dz_ ?_

 go_wp2_with fail
 refine bodyPost_end (results_none (by kernel_rfl) _ _ _) rfl ?_
 exact PO.out
theorem Bv6 (g j : Nat) (A : Option Addr) (n c m : Nat) (w : World) (h : w.cell? ⟨g, j, none⟩ = some (.slice A n c)) (hf : w.frozen? ⟨g, j, none⟩ = false) (hm : m ≤ c) (hc : c ≤ 9223372036854775807) :
  Calls Tryz.prog 84 #[.pointer (some ⟨g, j, none⟩), .int .i64 m] w fun e w' => e = .returned (.tuple #[]) ∧ w' = w.setCell ⟨g, j, none⟩ (.slice A m m) := by
 have h1 : ((m : Int) ≤ (c : Int)) = True := by simp; omega
 go_enter Tryz.func84, Tryz.ntmps84
 go_wp2_with fail
 refine bodyPost_end (results_none (by kernel_rfl) _ _ _) rfl ?_
 exact ⟨rfl, rfl⟩
theorem info132 : (Tryz.prog.info? 132).map (fun i => (i.zero, i.size, i.bytes)) = some (some (.agg #[.slice none 0 0, .bool false]), 2, 32) := by kernel_rfl
theorem info123 : (Tryz.prog.info? 123).map (fun i => (i.zero, i.size, i.bytes)) = some (some (.agg #[.bool false, .slice none 0 0, .int .i64 0, .slice none 0 0, .slice none 0 0, .slice none 0 0]), 6, 112) := by kernel_rfl
theorem Bt1 {P : Program} (w : World) (dT sT ty elem : TypeId) (sz b o dLen dCap : Nat) (a : Addr) (sLen sCap : Nat) (cs : List Value) (hu : P.underlying dT = some (.slice elem)) (hs : (P.info? elem).map (·.size) = some sz) (hn : cs.length = Nat.min sLen dLen * sz)
  (hsrc : ∀ j v, cs[j]? = some v → w.cell? (a.add j) = some v) (hc : ∀ j, j < cs.length → (w.cell? ⟨b, o + j, none⟩).isSome = true) (hf : ∀ j, j < cs.length → w.frozen? ⟨b, o + j, none⟩ = false) (h1 : ∀ v ∈ cs, v.oneCell' = true) :
  (Builtin.copy_ #[dT, sT] ty #[.slice (some ⟨b, o, none⟩) dLen dCap, .slice (some a) sLen sCap]).run P w = .ok (goInt (Nat.min sLen dLen : Nat)) (w.setCells b o cs) := by
 have hl := run_loadCells_list (P := P) w a cs hsrc
 have hst := run_storeCells_cells (P := P) b o cs 0 w (by simpa using hc) (by simpa using hf) h1
 cases hq : P.info? elem with
 | none => simp [hq] at hs
 | some i =>
  have hi : i.size = sz := by simpa [hq] using hs
  rw [hn] at hl
  simp [Builtin.copy_, run_underlying hu, Builtin.lenOf, Builtin.firstCells, sizeOf, typeInfo, hq, hi, hl, hst]
theorem Bt2 {P : Program} (w : World) (dT sT ty elem : TypeId) (sz : Nat) (d a : Option Addr) (dCap sCap : Nat) (hu : P.underlying dT = some (.slice elem)) (hs : (P.info? elem).map (·.size) = some sz) :
  (Builtin.copy_ #[dT, sT] ty #[.slice d 0 dCap, .slice a 0 sCap]).run P w = .ok (goInt 0) w := by
 cases hq : P.info? elem with
 | none => simp [hq] at hs
 | some i =>
  have hl : ∀ (x : Addr), (loadCells x 0).run P w = .ok #[] w := fun x => by simpa using run_loadCells_list (P := P) w x [] (by simp)
  cases d <;> cases a <;> simp [Builtin.copy_, run_underlying hu, Builtin.lenOf, Builtin.firstCells, sizeOf, typeInfo, hq, storeCells, hl]
theorem As2 {P : Program} {ops : Array Oper} {rest : List Oper} {o : Oper} {a : Act} {Q : Exit → Act → World → Prop} {W : World} {sz e b : Nat} {ok : Nat → Prop} (hgd : o.guard = none) (s x : Operand) (t t' : TypeId)
  (ho : o.op = .call { callee := .builtin .copy, args := #[s, x], argTypes := #[t, t'] }) (ht : P.underlying t = some (.slice e)) (hinfo : (P.info? e).map (·.size) = some sz)
  (v : Value) (xs ys : List (List Value)) (A : Option Addr) (m c : Nat) (hs : a.eval s = v) (hx : a.eval x = .slice A m c) (HO : (Kd.raw sz).R e W b ok v xs) (HR : (Kd.raw sz).C W A m ys) (hm : xs.length = m)
  (h : ∀ w1, (Kd.raw sz).R e w1 b ok v ys → W.grownBy w1 v.ownBlock → wpList P ops Q rest (a.put o.dst (.int .i64 m)) w1) : wpList P ops Q (o :: rest) a W := by
 have hym := HR.1
 have hinn : ∀ (l : List (List Value)) (inner : List Value), Reps ((Kd.raw sz).M W b (fun k => ok k ∧ some k ≠ v.ownBlock)) sz l inner → ∀ u ∈ inner, u.oneCell' = true := by
  intro l inner hr u hu
  obtain ⟨j, hj, rfl⟩ := List.getElem_of_mem hu
  rcases Nat.eq_zero_or_pos sz with h0 | hp
  ·have := hr.1
   rw [h0] at this
   omega
  have hjs : j / sz < l.length := by
   have := hr.1
   rw [this] at hj
   exact (Nat.div_lt_iff_lt_mul hp).2 hj
  obtain ⟨he, hc, h1⟩ := hr.2 (j / sz) _ (List.getElem?_eq_getElem hjs)
  refine h1 _ ?_
  have hmod := Nat.div_add_mod j sz
  have hlt := Nat.mod_lt j hp
  have : (((inner.drop (j / sz * sz)).take sz))[j % sz]? = some inner[j] := by
   rw [List.getElem?_take, if_pos hlt, List.getElem?_drop, show j / sz * sz + j % sz = j by rw [Nat.mul_comm]; exact hmod, List.getElem?_eq_getElem hj]
  exact List.mem_of_getElem? this
 have fin : ∀ w1, (Builtin.copy_ #[t, t'] o.type #[v, .slice A m c]).run P W = .ok (goInt (m : Nat)) w1 → (Kd.raw sz).R e w1 b ok v ys → W.grownBy w1 v.ownBlock → wpList P ops Q (o :: rest) a W := by
  intro w1 hr hrow hg
  refine wpList_plain hgd fun K hK => ?_
  unfold Oper.wp execOp
  simp only [ho, resolve, invoke, builtin, Sem.run_bind, Sem.run_pure, Result.andThen_ok, List.map_toArray, List.map_cons, List.map_nil, hs, hx, hr]
  exact hK _ _ (h w1 hrow hg)
 rcases Nat.eq_zero_or_pos m with h0 | hp
 ·subst h0
  obtain ⟨A', c', hv⟩ := Kd.Aa9 HO
  rw [hm] at hv
  subst hv
  have e1 := List.eq_nil_of_length_eq_zero hm
  have e2 := List.eq_nil_of_length_eq_zero hym
  subst e1 e2
  exact fin W (Bt2 W t t' o.type e sz A' A c' c ht hinfo) HO (World.grownBy.refl W _)
 ·obtain ⟨ad, hA, _⟩ := HR.2.2 hp
  subst hA
  obtain ⟨inner, hR, hcell⟩ := Ac9.inner_ HR
  obtain ⟨hok, inner0, ho0, hr0⟩ := HO
  have hR' : Reps ((Kd.raw sz).M W b (fun k => ok k ∧ some k ≠ v.ownBlock)) sz ys inner := hR.imp_ (fun _ _ hp => hp)
  rcases ho0.2 with ⟨_, hx0⟩ | ⟨g, cap, cur, hv, hb, hh, hnc, hcm, hcs, htake⟩
  ·omega
  subst hv
  have hil : inner.length = m * sz := by have h_ := hR.1; rw [hym] at h_; exact h_
  have hfit : inner.length ≤ cur.size := by rw [hil, hcs, ← hm]; exact Nat.mul_le_mul_right sz hnc
  have hr := Bt1 (P := P) W t t' o.type e sz g 0 xs.length cap ad m c inner ht hinfo (by rw [hil, hm]; simp) hcell
   (fun j hj => by rw [cell_of_row W g _ cur e (0, 0) hh]; simp; omega) (fun j _ => Aa1 hh _) (hinn ys inner hR')
  obtain ⟨cur', h3, h4, h5⟩ := Aq5 inner 0 W cur hh (by omega)
  obtain ⟨s1, s2, s3, s4⟩ := Ap3 g inner 0 W
  refine fin (W.setCells g 0 inner) (by rw [hr, hm]; simp) ⟨hok, inner, ?_, hR'⟩ ⟨s1, s2, s3, by rw [s4]; exact Nat.le_refl _, fun k _ hk => Aq6 _ _ k (fun he => hk (by rw [he]; simp [Value.ownBlock]))⟩
  have hys : ys.length * (Kd.raw sz).sz = inner.length := by rw [hym]; exact hil.symm
  refine ⟨hys.symm, .inr ⟨g, cap, cur', by rw [hym, hm], hb, h3, by rw [hym, ← hm]; exact hnc, hcm, by rw [h4, hcs], ?_⟩⟩
  rw [h5, List.take_zero, List.nil_append, Nat.zero_add, hys, List.take_left]
def Am7 {α : Type} (d : Kd α) (e : Nat) (S : Nat → Prop) (xs : List α) (w : World) (en : Ending) (w' : World) : Prop :=
 ∃ v rows, en = .returned v ∧ rows.length = xs.length ∧ (Kd.raw d.sz).R e w' w.heap.size (fun _ => True) v rows ∧ (∀ (j : Nat) (x : α) (c : List Value), xs[j]? = some x → rows[j]? = some c → Kd.FK d w (fun k => ¬ S k) x c) ∧ Below w.heap.size w w'
theorem As4 {α : Type} {d : Kd α} {e b : Nat} {S : Nat → Prop} {ok : Nat → Prop} {xs : List α} {w : World} {v : Value} {rows : List (List Value)} (hl : rows.length = xs.length) (hr : (Kd.raw d.sz).R e w b ok v rows) (hf : ∀ (j : Nat) (x : α) (c : List Value), xs[j]? = some x → rows[j]? = some c → Kd.FK d w (fun k => ¬ S k) x c) (hS : ∀ x, S x → x < b) : LK d S w v xs := by
 obtain ⟨A, c, rfl⟩ := Kd.Aa9 hr
 have h1 := Kd.Ai1 hr
 rw [hl] at *
 refine LK.mk h1.2.1 (fun W' hW => ?_)
 have h2 := Kd.Ai1 (Kd.Aw5 (w1 := W') (Kd.Af6 hr) (fun k hk hl => hW k (fun e => by have := hS k e; have := hk.2.1; omega) hl))
 obtain ⟨a1, a2, a3⟩ := h2.2.2
 refine ⟨rfl, by omega, fun hp => ?_⟩
 obtain ⟨ad, e1, hc⟩ := a3 (by omega)
 refine ⟨ad, e1, fun j p hj => ?_⟩
 have hjl := (List.getElem?_eq_some_iff.1 hj).1
 obtain ⟨c1, h3, ⟨rfl, _⟩, h5⟩ := hc j _ (List.getElem?_eq_getElem (show j < rows.length by omega))
 exact ⟨_, h3, hf j p _ hj (List.getElem?_eq_getElem (show j < rows.length by omega)) W' hW, h5⟩
theorem Am7.lk {α : Type} {d : Kd α} {e : Nat} {S : Nat → Prop} {xs : List α} {w : World} {en : Ending} {w' : World} (h : Am7 d e S xs w en w') (hS : ∀ x, S x → x < w.heap.size) : ∃ v, en = .returned v ∧ LK d S w' v xs ∧ Below w.heap.size w w' := by
 obtain ⟨v, rows, e1, hl, hr, hf, hb⟩ := h
 exact ⟨v, e1, As4 hl hr (fun j x c hx hc => Kd.An5 (hf j x c hx hc) hb) hS, hb⟩
theorem Ch6 {P : Program} {ops : Array Oper} {rest : List Oper} {o : Oper} {a : Act} {Q : Exit → Act → World → Prop} {W : World} {e sz : Nat} (hgd : o.guard = none) (t : TypeId) (x y : Operand) (ho : o.op = .makeSlice t x y) (n : Nat) (hx : a.eval x = .int .i64 n) (hy : a.eval y = .int .i64 n)
  (ht : P.underlying t = some (.slice e)) (z : Value) (bytes : Nat) (hinfo : (P.info? e).map (fun i => (i.zero, i.size, i.bytes)) = some (some z, sz, bytes)) (hz : z.cells.size = sz) (hs0 : 0 < sz) (hb0 : 0 < bytes) (h1 : ∀ u ∈ z.cells.toList, u.oneCell' = true) (hl : n * bytes ≤ 281474976710656)
  (h : ∀ w1, (Kd.raw sz).R e w1 W.heap.size (fun _ => True) (.slice (some ⟨W.heap.size, 0, none⟩) n n) (List.replicate n z.cells.toList) → Below W.heap.size W w1 → wpList P ops Q rest (a.put o.dst (.slice (some ⟨W.heap.size, 0, none⟩) n n)) w1) : wpList P ops Q (o :: rest) a W := by
 obtain ⟨i0, hi, hzz⟩ := Option.map_eq_some_iff.1 hinfo
 simp only [Prod.mk.injEq] at hzz
 obtain ⟨hz0, hz1, hz2⟩ := hzz
 have hm := Nat.le_trans (Nat.le_mul_of_pos_right _ hb0) hl
 have hr := run_make (P := P) W t e i0 z ht hi hz0 .i64 .i64 (n : Int) (n : Int) (by omega) (by omega)
  (by
   have h3 : ((i0.bytes * n : Nat) : Int) ≤ 281474976710656 := by rw [hz2, Nat.mul_comm]; omega
   rwa [Int.natCast_mul] at h3) (by omega)
 simp only [Int.toNat_natCast] at hr
 rw [hz1] at hr
 have hp := Kd.Bo0 (R := (Kd.raw sz).M W W.heap.size (fun _ => True)) hz hs0 (z0 := z.cells.toList) ⟨rfl, by simpa using hz, h1⟩ n
 have ho1 := Aj8.lit (e := e) W W.heap.size hp (Nat.le_refl _) (by simp; omega)
 rw [List.length_replicate] at ho1
 have hR : (Kd.raw sz).R e (W.alloc (.cells (madeCells z.cells (n * sz)).toList.toArray e)) W.heap.size (fun _ => True) (.slice (some ⟨W.heap.size, 0, none⟩) n n) (List.replicate n z.cells.toList) := ⟨fun _ _ => trivial, ho1⟩
 exact Kd.Be9 hgd (v := .slice (some ⟨W.heap.size, 0, none⟩) n n) (w1 := W.alloc (.cells (madeCells z.cells (n * sz)).toList.toArray e)) (by simp [execOp, ho, hx, hy, hr]) (h _ hR (bz_))
def CopFull (S : Nat → Prop) (xs : List S39) (w : World) (en : Ending) (w' : World) : Prop := ∃ A rows, en = .returned (.slice A xs.length xs.length) ∧ rows.length = xs.length ∧ (Kd.raw 3).R 39 w' w.heap.size (fun _ => True) (.slice A xs.length xs.length) rows ∧ (∀ (j : Nat) (x : S39) (c : List Value), xs[j]? = some x → rows[j]? = some c → Kd.FK k39 w (fun k => ¬ S k) x c) ∧ Below w.heap.size w w'
set_option maxHeartbeats 1000000 in
theorem Be0 (S : Nat → Prop) (A : Option Addr) (c : Nat) (xs : List S39) (w : World) (h : LK k39 S w (.slice A xs.length c) xs) (hl : xs.length ≤ 1099511627776) :
  Calls Tryz.prog 50 #[.slice A xs.length c] w (CopFull S xs w) := by
 obtain ⟨rows, hrl, hrC, hrf⟩ := Kd.An9 (Kd.Bg3 h.F) (fun y c hk => ⟨(k39).K_len (Kd.Ah4 hk), (k39).K_one (Kd.Ah4 hk)⟩)
 have HC : Aa2 ((Kd.raw 3).C w A rows.length rows) := ⟨by rw [hrl]; exact hrC⟩
 have HF := zA hrf
 have HRL := zA hrl
 obtain ⟨n, hn⟩ : ∃ n, n = xs.length := ⟨_, rfl⟩
 rw [← hn] at hl hrl
 have HN := zA hn
 have HL := zA hl
 have HNR : Aa2 (rows.length = n) := ⟨hrl⟩
 rw [← hn]
 clear h hrC hrf hrl hn
 have hl2 : n ≤ 9223372036854775807 := by omega
 go_enter Tryz.func50, Tryz.ntmps50
 go_wp2_with (first | (at_make; refine Ch6 (sz := 3) (e := 39) rfl 27 (.tmp 5) (.tmp 5) rfl n rfl rfl Tryz.underlying27 (.agg #[.int .i64 0, .bool false, .int .i64 0]) 24 Am5 rfl (by decide) (by decide) (by simp [Value.oneCell', Value.cells]) (by have := HL.out; omega) ?_; intro w1 hr hb; have R1 := zA hr; have B1 := zA hb; clear hr hb) | (refine Cd5 (.call { callee := .builtin .copy, args := #[.tmp 7, .tmp 8], argTypes := #[27, 27] }) rfl ?_; refine As2 (sz := 3) (e := 39) (b := w.heap.size) (ok := fun _ => True) rfl (.tmp 7) (.tmp 8) 27 27 rfl Tryz.underlying27 (by kernel_rfl) (.slice (some ⟨w.heap.size, 0, none⟩) n n) (List.replicate n (.agg #[.int .i64 0, .bool false, .int .i64 0] : Value).cells.toList) rows A n c rfl rfl R1.out ?_ (by simp) ?_; (have h9 := Kd.Ab1 (HC.out) (B1.out); rw [HNR.out] at h9; exact h9); intro w2 hr hg; have R2 := zA hr; have B2 := zA (Below.grown B1.out hg B1.out.size (fun k hk => Kd.Ar9 R1.out k hk)); clear hr hg))
 go_ret
 exact ⟨some ⟨w.heap.size, 0, none⟩, rows, by rw [HN.out]; rfl, HRL.out, by have h_ := R2.out; rw [HN.out] at h_; exact h_, HF.out, B2.out⟩
theorem Bq5 (S : Nat → Prop) (A : Option Addr) (c : Nat) (xs : List S39) (w : World) (h : LK k39 S w (.slice A xs.length c) xs) (hl : xs.length ≤ 1099511627776) :
  Calls Tryz.prog 50 #[.slice A xs.length c] w (Am7 k39 39 S xs w) :=
 (Be0 S A c xs w h hl).mono (fun e w' ⟨A1, rows, e1, h1, h2, h3, h4⟩ => ⟨_, rows, e1, h1, h2, h3, h4⟩)
set_option maxHeartbeats 1000000 in
theorem Bh3 (S : Nat → Prop) (A : Option Addr) (c : Nat) (xs : List Bool) (w : World) (h : LK Kd.bool S w (.slice A xs.length c) xs) (hl : xs.length ≤ 1099511627776) :
  Calls Tryz.prog 66 #[.slice A xs.length c] w (Am7 Kd.bool 4 S xs w) := by
 obtain ⟨rows, hrl, hrC, hrf⟩ := Kd.An9 (Kd.Bg3 h.F) (fun y c hk => ⟨(Kd.bool).K_len (Kd.Ah4 hk), (Kd.bool).K_one (Kd.Ah4 hk)⟩)
 have HC : Aa2 ((Kd.raw 1).C w A rows.length rows) := ⟨by rw [hrl]; exact hrC⟩
 have HF := zA hrf
 have HRL := zA hrl
 obtain ⟨n, hn⟩ : ∃ n, n = xs.length := ⟨_, rfl⟩
 rw [← hn] at hl hrl ⊢
 have HN := zA hn
 have HL := zA hl
 have HNR : Aa2 (rows.length = n) := ⟨hrl⟩
 clear h hrC hrf hrl hn
 have hl2 : n ≤ 9223372036854775807 := by omega
 go_enter Tryz.func66, Tryz.ntmps66
 go_wp2_with (first | (at_make; refine Kd.Bj8 (Kd.raw 1) (w0 := w) w.heap.size 4 rfl rfl 28 (.tmp 5) (.tmp 5) rfl (n : Int) rfl rfl Tryz.underlying28 (.bool false) 1 Cd0 rfl (by decide) (by decide) (.bool false : Value).cells.toList (ok := fun _ => True) (okp := fun _ => True) ⟨rfl, rfl, by simp [Value.oneCell', Value.cells]⟩ (fun _ _ => trivial) trivial (by omega) (by have := HL.out; omega) (Below.refl _ _) (Nat.le_refl _) ?_; intro v1 w1 hr hb hg hat; simp only [Int.toNat_natCast] at hr; obtain ⟨A1, c1, ev⟩ := Kd.Aa9 hr; rw [List.length_replicate] at ev; subst ev; have R1 := zA hr; have B1 := zA hb; clear hr hb hg hat) | (refine Cd5 (.call { callee := .builtin .copy, args := #[.tmp 7, .tmp 8], argTypes := #[28, 28] }) rfl ?_; refine As2 (sz := 1) (e := 4) (b := w.heap.size) (ok := fun _ => True) rfl (.tmp 7) (.tmp 8) 28 28 rfl Tryz.underlying28 (by kernel_rfl) (.slice A1 n c1) (List.replicate n (.bool false : Value).cells.toList) rows A n c rfl rfl R1.out ?_ (by simp) ?_; (have h9 := Kd.Ab1 (HC.out) (B1.out); rw [HNR.out] at h9; exact h9); intro w2 hr hg; have R2 := zA hr; have B2 := zA (Below.grown B1.out hg B1.out.size (fun k hk => Kd.Ar9 R1.out k hk)); clear hr hg))
 go_ret
 exact ⟨.slice A1 n c1, rows, rfl, HRL.out, R2.out, HF.out, B2.out⟩
set_option maxHeartbeats 1000000 in
theorem Bq7 (S : Nat → Prop) (A : Option Addr) (c : Nat) (xs : List S132) (w : World) (h : LK k132 S w (.slice A xs.length c) xs) (hl : xs.length ≤ 1099511627776) :
  Calls Tryz.prog 113 #[.slice A xs.length c] w (Am7 k132 132 S xs w) := by
 obtain ⟨rows, hrl, hrC, hrf⟩ := Kd.An9 (Kd.Bg3 h.F) (fun y c hk => ⟨(k132).K_len (Kd.Ah4 hk), (k132).K_one (Kd.Ah4 hk)⟩)
 have HC : Aa2 ((Kd.raw 2).C w A rows.length rows) := ⟨by rw [hrl]; exact hrC⟩
 have HF := zA hrf
 have HRL := zA hrl
 obtain ⟨n, hn⟩ : ∃ n, n = xs.length := ⟨_, rfl⟩
 rw [← hn] at hl hrl ⊢
 have HN := zA hn
 have HL := zA hl
 have HNR : Aa2 (rows.length = n) := ⟨hrl⟩
 clear h hrC hrf hrl hn
 have hl2 : n ≤ 9223372036854775807 := by omega
 go_enter Tryz.func113, Tryz.ntmps113
 go_wp2_with (first | (at_make; refine Kd.Bj8 (Kd.raw 2) (w0 := w) w.heap.size 132 rfl rfl 22 (.tmp 5) (.tmp 5) rfl (n : Int) rfl rfl Tryz.underlying22 (.agg #[.slice none 0 0, .bool false]) 32 info132 rfl (by decide) (by decide) (.agg #[.slice none 0 0, .bool false] : Value).cells.toList (ok := fun _ => True) (okp := fun _ => True) ⟨rfl, rfl, by simp [Value.oneCell', Value.cells]⟩ (fun _ _ => trivial) trivial (by omega) (by have := HL.out; omega) (Below.refl _ _) (Nat.le_refl _) ?_; intro v1 w1 hr hb hg hat; simp only [Int.toNat_natCast] at hr; obtain ⟨A1, c1, ev⟩ := Kd.Aa9 hr; rw [List.length_replicate] at ev; subst ev; have R1 := zA hr; have B1 := zA hb; clear hr hb hg hat) | (refine Cd5 (.call { callee := .builtin .copy, args := #[.tmp 7, .tmp 8], argTypes := #[22, 22] }) rfl ?_; refine As2 (sz := 2) (e := 132) (b := w.heap.size) (ok := fun _ => True) rfl (.tmp 7) (.tmp 8) 22 22 rfl Tryz.underlying22 (by kernel_rfl) (.slice A1 n c1) (List.replicate n (.agg #[.slice none 0 0, .bool false] : Value).cells.toList) rows A n c rfl rfl R1.out ?_ (by simp) ?_; (have h9 := Kd.Ab1 (HC.out) (B1.out); rw [HNR.out] at h9; exact h9); intro w2 hr hg; have R2 := zA hr; have B2 := zA (Below.grown B1.out hg B1.out.size (fun k hk => Kd.Ar9 R1.out k hk)); clear hr hg))
 go_ret
 exact ⟨.slice A1 n c1, rows, rfl, HRL.out, R2.out, HF.out, B2.out⟩
set_option maxHeartbeats 1000000 in
theorem Bq6 (S : Nat → Prop) (A : Option Addr) (c : Nat) (xs : List S123) (w : World) (h : LK k123 S w (.slice A xs.length c) xs) (hl : xs.length ≤ 1099511627776) :
  Calls Tryz.prog 114 #[.slice A xs.length c] w (Am7 k123 123 S xs w) := by
 obtain ⟨rows, hrl, hrC, hrf⟩ := Kd.An9 (Kd.Bg3 h.F) (fun y c hk => ⟨(k123).K_len (Kd.Ah4 hk), (k123).K_one (Kd.Ah4 hk)⟩)
 have HC : Aa2 ((Kd.raw 6).C w A rows.length rows) := ⟨by rw [hrl]; exact hrC⟩
 have HF := zA hrf
 have HRL := zA hrl
 obtain ⟨n, hn⟩ : ∃ n, n = xs.length := ⟨_, rfl⟩
 rw [← hn] at hl hrl ⊢
 have HN := zA hn
 have HL := zA hl
 have HNR : Aa2 (rows.length = n) := ⟨hrl⟩
 clear h hrC hrf hrl hn
 have hl2 : n ≤ 9223372036854775807 := by omega
 go_enter Tryz.func114, Tryz.ntmps114
 go_wp2_with (first | (at_make; refine Kd.Bj8 (Kd.raw 6) (w0 := w) w.heap.size 123 rfl rfl 130 (.tmp 5) (.tmp 5) rfl (n : Int) rfl rfl Tryz.underlying130 (.agg #[.bool false, .slice none 0 0, .int .i64 0, .slice none 0 0, .slice none 0 0, .slice none 0 0]) 112 info123 rfl (by decide) (by decide) (.agg #[.bool false, .slice none 0 0, .int .i64 0, .slice none 0 0, .slice none 0 0, .slice none 0 0] : Value).cells.toList (ok := fun _ => True) (okp := fun _ => True) ⟨rfl, rfl, by simp [Value.oneCell', Value.cells]⟩ (fun _ _ => trivial) trivial (by omega) (by have := HL.out; omega) (Below.refl _ _) (Nat.le_refl _) ?_; intro v1 w1 hr hb hg hat; simp only [Int.toNat_natCast] at hr; obtain ⟨A1, c1, ev⟩ := Kd.Aa9 hr; rw [List.length_replicate] at ev; subst ev; have R1 := zA hr; have B1 := zA hb; clear hr hb hg hat) | (refine Cd5 (.call { callee := .builtin .copy, args := #[.tmp 7, .tmp 8], argTypes := #[130, 130] }) rfl ?_; refine As2 (sz := 6) (e := 123) (b := w.heap.size) (ok := fun _ => True) rfl (.tmp 7) (.tmp 8) 130 130 rfl Tryz.underlying130 (by kernel_rfl) (.slice A1 n c1) (List.replicate n (.agg #[.bool false, .slice none 0 0, .int .i64 0, .slice none 0 0, .slice none 0 0, .slice none 0 0] : Value).cells.toList) rows A n c rfl rfl R1.out ?_ (by simp) ?_; (have h9 := Kd.Ab1 (HC.out) (B1.out); rw [HNR.out] at h9; exact h9); intro w2 hr hg; have R2 := zA hr; have B2 := zA (Below.grown B1.out hg B1.out.size (fun k hk => Kd.Ar9 R1.out k hk)); clear hr hg))
 go_ret
 exact ⟨.slice A1 n c1, rows, rfl, HRL.out, R2.out, HF.out, B2.out⟩
set_option maxHeartbeats 1000000 in
theorem Bl7 (S : Nat → Prop) (A : Option Addr) (c : Nat) (xs : List Int) (w : World) (h : LK (Kd.int .i64) S w (.slice A xs.length c) xs) (hl : xs.length ≤ 1099511627776) :
  Calls Tryz.prog 115 #[.slice A xs.length c] w (Am7 (Kd.int .i64) 3 S xs w) := by
 obtain ⟨rows, hrl, hrC, hrf⟩ := Kd.An9 (Kd.Bg3 h.F) (fun y c hk => ⟨((Kd.int .i64)).K_len (Kd.Ah4 hk), ((Kd.int .i64)).K_one (Kd.Ah4 hk)⟩)
 have HC : Aa2 ((Kd.raw 1).C w A rows.length rows) := ⟨by rw [hrl]; exact hrC⟩
 have HF := zA hrf
 have HRL := zA hrl
 obtain ⟨n, hn⟩ : ∃ n, n = xs.length := ⟨_, rfl⟩
 rw [← hn] at hl hrl ⊢
 have HN := zA hn
 have HL := zA hl
 have HNR : Aa2 (rows.length = n) := ⟨hrl⟩
 clear h hrC hrf hrl hn
 have hl2 : n ≤ 9223372036854775807 := by omega
 go_enter Tryz.func115, Tryz.ntmps115
 go_wp2_with (first | (at_make; refine Kd.Bj8 (Kd.raw 1) (w0 := w) w.heap.size 3 rfl rfl 23 (.tmp 5) (.tmp 5) rfl (n : Int) rfl rfl Tryz.underlying23 (.int .i64 0) 8 Ax8 rfl (by decide) (by decide) (.int .i64 0 : Value).cells.toList (ok := fun _ => True) (okp := fun _ => True) ⟨rfl, rfl, by simp [Value.oneCell', Value.cells]⟩ (fun _ _ => trivial) trivial (by omega) (by have := HL.out; omega) (Below.refl _ _) (Nat.le_refl _) ?_; intro v1 w1 hr hb hg hat; simp only [Int.toNat_natCast] at hr; obtain ⟨A1, c1, ev⟩ := Kd.Aa9 hr; rw [List.length_replicate] at ev; subst ev; have R1 := zA hr; have B1 := zA hb; clear hr hb hg hat) | (refine Cd5 (.call { callee := .builtin .copy, args := #[.tmp 7, .tmp 8], argTypes := #[23, 23] }) rfl ?_; refine As2 (sz := 1) (e := 3) (b := w.heap.size) (ok := fun _ => True) rfl (.tmp 7) (.tmp 8) 23 23 rfl Tryz.underlying23 (by kernel_rfl) (.slice A1 n c1) (List.replicate n (.int .i64 0 : Value).cells.toList) rows A n c rfl rfl R1.out ?_ (by simp) ?_; (have h9 := Kd.Ab1 (HC.out) (B1.out); rw [HNR.out] at h9; exact h9); intro w2 hr hg; have R2 := zA hr; have B2 := zA (Below.grown B1.out hg B1.out.size (fun k hk => Kd.Ar9 R1.out k hk)); clear hr hg))
 go_ret
 exact ⟨.slice A1 n c1, rows, rfl, HRL.out, R2.out, HF.out, B2.out⟩
set_option maxHeartbeats 1000000 in
theorem Bq8 (S : Nat → Prop) (A : Option Addr) (c : Nat) (xs : List S172) (w : World) (h : LK k172 S w (.slice A xs.length c) xs) (hl : xs.length ≤ 1099511627776) :
  Calls Tryz.prog 116 #[.slice A xs.length c] w (Am7 k172 172 S xs w) := by
 obtain ⟨rows, hrl, hrC, hrf⟩ := Kd.An9 (Kd.Bg3 h.F) (fun y c hk => ⟨(k172).K_len (Kd.Ah4 hk), (k172).K_one (Kd.Ah4 hk)⟩)
 have HC : Aa2 ((Kd.raw 4).C w A rows.length rows) := ⟨by rw [hrl]; exact hrC⟩
 have HF := zA hrf
 have HRL := zA hrl
 obtain ⟨n, hn⟩ : ∃ n, n = xs.length := ⟨_, rfl⟩
 rw [← hn] at hl hrl ⊢
 have HN := zA hn
 have HL := zA hl
 have HNR : Aa2 (rows.length = n) := ⟨hrl⟩
 clear h hrC hrf hrl hn
 have hl2 : n ≤ 9223372036854775807 := by omega
 go_enter Tryz.func116, Tryz.ntmps116
 go_wp2_with (first | (at_make; refine Kd.Bj8 (Kd.raw 4) (w0 := w) w.heap.size 172 rfl rfl 119 (.tmp 5) (.tmp 5) rfl (n : Int) rfl rfl Tryz.underlying119 (.agg #[.int .i64 0, .bool false, .int .i64 0, .bool false]) 32 Bm1 rfl (by decide) (by decide) (.agg #[.int .i64 0, .bool false, .int .i64 0, .bool false] : Value).cells.toList (ok := fun _ => True) (okp := fun _ => True) ⟨rfl, rfl, by simp [Value.oneCell', Value.cells]⟩ (fun _ _ => trivial) trivial (by omega) (by have := HL.out; omega) (Below.refl _ _) (Nat.le_refl _) ?_; intro v1 w1 hr hb hg hat; simp only [Int.toNat_natCast] at hr; obtain ⟨A1, c1, ev⟩ := Kd.Aa9 hr; rw [List.length_replicate] at ev; subst ev; have R1 := zA hr; have B1 := zA hb; clear hr hb hg hat) | (refine Cd5 (.call { callee := .builtin .copy, args := #[.tmp 7, .tmp 8], argTypes := #[119, 119] }) rfl ?_; refine As2 (sz := 4) (e := 172) (b := w.heap.size) (ok := fun _ => True) rfl (.tmp 7) (.tmp 8) 119 119 rfl Tryz.underlying119 (by kernel_rfl) (.slice A1 n c1) (List.replicate n (.agg #[.int .i64 0, .bool false, .int .i64 0, .bool false] : Value).cells.toList) rows A n c rfl rfl R1.out ?_ (by simp) ?_; (have h9 := Kd.Ab1 (HC.out) (B1.out); rw [HNR.out] at h9; exact h9); intro w2 hr hg; have R2 := zA hr; have B2 := zA (Below.grown B1.out hg B1.out.size (fun k hk => Kd.Ar9 R1.out k hk)); clear hr hg))
 go_ret
 exact ⟨.slice A1 n c1, rows, rfl, HRL.out, R2.out, HF.out, B2.out⟩
theorem CR.head {sz e : Nat} {ok : Nat → Prop} {W : World} {A : Option Addr} {c : Nat} {xs : List (List Value)} (h : CR sz e ok W A c xs) (hx : xs ≠ []) : ∃ b cells, A = some ⟨b, 0, none⟩ ∧ W.heap[b]? = some (.cells cells e (0, 0)) := by
 obtain ⟨ys, c0, h1, h2, h3⟩ := h
 cases A with
 | none =>
  obtain ⟨_, inner, ho, hr⟩ := h1
  rcases ho.2 with ⟨hv, _⟩ | ⟨g, cap, cur, hv, _⟩
  ·injection hv with _ hn hc
   have hy : ys = [] := List.eq_nil_of_length_eq_zero hn
   subst hy
   exact absurd (by rw [h2]; simp) hx
  ·injection hv with hv
   cases hv
 | some ad =>
  obtain ⟨b, rfl⟩ := Kd.R_head h1
  obtain ⟨cells, hc⟩ := Kd.Bm9 h1 b rfl
  exact ⟨b, cells, rfl, hc⟩
theorem CR.at0 {sz e : Nat} {ok : Nat → Prop} {W : World} {A : Option Addr} {c : Nat} {xs : List (List Value)} (h : CR sz e ok W A c xs) {i : Nat} {cs : List Value} (hi : xs[i]? = some cs) : ∃ b cells, A = some ⟨b, 0, none⟩ ∧ W.heap[b]? = some (.cells cells e (0, 0)) ∧ ∀ j u, cs[j]? = some u → W.cell? ⟨b, i * sz + j, none⟩ = some u := by
 obtain ⟨b, cells, rfl, hc⟩ := h.head (by intro e; rw [e] at hi; cases hi)
 refine ⟨b, cells, rfl, hc, fun j u hj => ?_⟩
 obtain ⟨ad, e1, h1⟩ := h.cell hi hj
 injection e1 with e1
 subst e1
 rw [Addr.add_lit, Nat.zero_add] at h1
 exact h1
structure FrAt (sh : Nat → Prop) (W : World) (b o : Nat) (x : Fr) (A1 : Option Addr) (c1 : Nat) (A2 : Option Addr) (c2 : Nat) (A4 : Option Addr) (c4 : Nat) : Prop where
 op : W.cell? ⟨b, o, none⟩ = some (.int .i64 x.op)
 ins : W.cell? ⟨b, o + 1, none⟩ = some (.slice A1 x.ins.length c1)
 outs : W.cell? ⟨b, o + 2, none⟩ = some (.slice A2 x.outs.length c2)
 height : W.cell? ⟨b, o + 3, none⟩ = some (.int .i64 x.height)
 sets : W.cell? ⟨b, o + 4, none⟩ = some (.slice A4 x.sets.length c4)
 dead : W.cell? ⟨b, o + 5, none⟩ = some (.bool x.dead)
 f1 : x.ins.length ≤ c1 ∧ Kd.F k39 W sh A1 x.ins.length x.ins
 f2 : x.outs.length ≤ c2 ∧ Kd.F k39 W sh A2 x.outs.length x.outs
 f4 : x.sets.length ≤ c4 ∧ Kd.F Kd.bool W sh A4 x.sets.length x.sets
 blk : ∃ cells, W.heap[b]? = some (.cells cells 105 (0, 0))
theorem FmR.at {ok sh : Nat → Prop} {W : World} {A : Option Addr} {c : Nat} {xs : List Fr} (h : FmR ok sh W A c xs) {i : Nat} {x : Fr} (hx : xs[i]? = some x) : ∃ b A1 c1 A2 c2 A4 c4, A = some ⟨b, 0, none⟩ ∧ FrAt sh W b (i * 6) x A1 c1 A2 c2 A4 c4 := by
 obtain ⟨rows, hl, hr, hf⟩ := h
 have hil := (List.getElem?_eq_some_iff.1 hx).1
 have hi : rows[i]? = some rows[i] := List.getElem?_eq_getElem (by omega)
 obtain ⟨b, cells, rfl, hc, hcell⟩ := hr.at0 hi
 obtain ⟨A1, c1, A2, c2, A4, c4, e1, l1, g1, l2, g2, l4, g4⟩ := Bj1 (hf i x _ hx hi)
 rw [e1] at hcell
 exact ⟨b, A1, c1, A2, c2, A4, c4, rfl, hcell 0 _ rfl, hcell 1 _ rfl, hcell 2 _ rfl, hcell 3 _ rfl, hcell 4 _ rfl, hcell 5 _ rfl, ⟨l1, g1⟩, ⟨l2, g2⟩, ⟨l4, g4⟩, cells, hc⟩
theorem FrAt.lk1 {S : Nat → Prop} {W : World} {b o : Nat} {x : Fr} {A1 : Option Addr} {c1 : Nat} {A2 : Option Addr} {c2 : Nat} {A4 : Option Addr} {c4 : Nat} (h : FrAt (fun k => ¬ S k) W b o x A1 c1 A2 c2 A4 c4) : LK k39 S W (.slice A1 x.ins.length c1) x.ins := LK.mk h.f1.1 h.f1.2
theorem FrAt.lk2 {S : Nat → Prop} {W : World} {b o : Nat} {x : Fr} {A1 : Option Addr} {c1 : Nat} {A2 : Option Addr} {c2 : Nat} {A4 : Option Addr} {c4 : Nat} (h : FrAt (fun k => ¬ S k) W b o x A1 c1 A2 c2 A4 c4) : LK k39 S W (.slice A2 x.outs.length c2) x.outs := LK.mk h.f2.1 h.f2.2
theorem FrAt.lk4 {S : Nat → Prop} {W : World} {b o : Nat} {x : Fr} {A1 : Option Addr} {c1 : Nat} {A2 : Option Addr} {c2 : Nat} {A4 : Option Addr} {c4 : Nat} (h : FrAt (fun k => ¬ S k) W b o x A1 c1 A2 c2 A4 c4) : LK Kd.bool S W (.slice A4 x.sets.length c4) x.sets := LK.mk h.f4.1 h.f4.2
section
variable {D S : Nat → Prop} {g : Nat} {k : Chk} {W : World} {v1 v2 v3 v4 : Value} {ao : Option Addr} {co : Nat} {af : Option Addr} {cf : Nat}
theorem StV.c0 (h : StV D S g k W v1 v2 v3 v4 ao co af cf) : W.cell? ⟨g, 0, none⟩ = some (.bool true) := (Aa0 h.box 0).trans rfl
theorem StV.c1 (h : StV D S g k W v1 v2 v3 v4 ao co af cf) : W.cell? ⟨g, 1, none⟩ = some v1 := (Aa0 h.box 1).trans rfl
theorem StV.c3 (h : StV D S g k W v1 v2 v3 v4 ao co af cf) : W.cell? ⟨g, 3, none⟩ = some v3 := (Aa0 h.box 3).trans rfl
theorem StV.c5 (h : StV D S g k W v1 v2 v3 v4 ao co af cf) : W.cell? ⟨g, 5, none⟩ = some (.slice ao k.ops.length co) := (Aa0 h.box 5).trans rfl
theorem StV.c6 (h : StV D S g k W v1 v2 v3 v4 ao co af cf) : W.cell? ⟨g, 6, none⟩ = some (.slice af k.frames.length cf) := (Aa0 h.box 6).trans rfl
theorem StV.co_le (h : StV D S g k W v1 v2 v3 v4 ao co af cf) : k.ops.length ≤ co := by have := h.ops.reads.1; rwa [List.length_map] at this
theorem StV.cf_le (h : StV D S g k W v1 v2 v3 v4 ao co af cf) : k.frames.length ≤ cf := by
 obtain ⟨rows, hl, hr, _⟩ := h.frs
 have := hr.reads.1
 omega
theorem StV.oplk (h : StV D S g k W v1 v2 v3 v4 ao co af cf) : LK k39 (fun x => ¬ some x = ao.map (·.block)) W (.slice ao k.ops.length co) k.ops := by
 refine LK.mk h.co_le (fun W' hW => ?_)
 have h1 := (h.ops.tight.step (W' := W') (fun x hx hl => hW x (fun e => e hx) hl)).reads.2
 rw [List.length_map] at h1
 obtain ⟨a1, a2, a3⟩ := h1
 refine ⟨rfl, a2, fun hp => ?_⟩
 obtain ⟨ad, e1, hc⟩ := a3 hp
 refine ⟨ad, e1, fun j p hj => ?_⟩
 obtain ⟨c, h3, ⟨rfl, _⟩, h5⟩ := hc j (cVT p) (by rw [List.getElem?_map, hj]; rfl)
 exact ⟨_, rfl, Bq9 W' p, h5⟩
end
def LOut {α : Type} (d : Kd α) (S : Nat → Prop) (xs : List α) (w : World) (e : Ending) (w' : World) : Prop := ∃ v, e = .returned v ∧ LK d S w' v xs ∧ Below w.heap.size w w'
def LFull (S : Nat → Prop) (xs : List S39) (w : World) (e : Ending) (w' : World) : Prop := ∃ A, e = .returned (.slice A xs.length xs.length) ∧ LK k39 S w' (.slice A xs.length xs.length) xs ∧ Below w.heap.size w w'
theorem Ar3 {S S' : Nat → Prop} {v : Value} {xs : List S39} {w : World} (h : LK k39 S w v xs) (hl : xs.length ≤ 1099511627776) (hS : ∀ x, S' x → x < w.heap.size) : Calls Tryz.prog 50 #[v] w (LFull S' xs w) := by
 obtain ⟨A, c, rfl⟩ := h.slice
 refine (Be0 S A c xs w h hl).mono (fun e w' h => ?_)
 obtain ⟨A1, rows, e1, hl, hr, hf, hb⟩ := h
 have hf' : ∀ (j : Nat) (x : S39) (c : List Value), xs[j]? = some x → rows[j]? = some c → Kd.FK k39 w' (fun k => ¬ S' k) x c := fun j x c hx hc W' hW => by
  have h1 := An3 (Kd.Ah4 (hf j x c hx hc))
  rw [h1]
  exact Bq9 W' x
 exact ⟨A1, e1, As4 hl hr hf' hS, hb⟩
theorem Ag1 {S S' : Nat → Prop} {v : Value} {xs : List S39} {w : World} (h : LK k39 S w v xs) (hl : xs.length ≤ 1099511627776) (hS : ∀ x, S' x → x < w.heap.size) : Calls Tryz.prog 50 #[v] w (LOut k39 S' xs w) :=
 (Ar3 h hl hS).mono (fun e w' ⟨A, e1, h1, h2⟩ => ⟨_, e1, h1, h2⟩)
theorem Ar4 {S S' : Nat → Prop} {v : Value} {xs : List Bool} {w : World} (h : LK Kd.bool S w v xs) (hl : xs.length ≤ 1099511627776) (hS : ∀ x, S' x → x < w.heap.size) : Calls Tryz.prog 66 #[v] w (LOut Kd.bool S' xs w) := by
 obtain ⟨A, c, rfl⟩ := h.slice
 refine (Bh3 S A c xs w h hl).mono (fun e w' h => ?_)
 obtain ⟨v, rows, e1, hl, hr, hf, hb⟩ := h
 exact ⟨v, e1, As4 hl hr (fun j x c hx hc W2 hW => show c = [.bool x] from Kd.Ah4 (hf j x c hx hc)) hS, hb⟩
def labM (fs : List Fr) (n : Nat) : Int × List S39 := if h : n < fs.length then (0, if (fs[fs.length - 1 - n]).op = 3 then (fs[fs.length - 1 - n]).ins else (fs[fs.length - 1 - n]).outs) else (133, [])
section
variable {D S : Nat → Prop} {g : Nat} {k : Chk} {w : World}
theorem Bd8 (h : St D S g k w) (hl : k.ops.length ≤ 1099511627776) : Calls Tryz.prog 17 #[.pointer (some ⟨g, 0, none⟩)] w (LOut k39 (fun x => S x ∨ D x) k.ops w) := by
 obtain ⟨v1, v2, v3, v4, ao, co, af, cf, h⟩ := h
 have K0 := Ag4 g w h.c0
 have K1 := Ag1 (S' := fun x => S x ∨ D x) h.oplk hl h.lt
 have c5 := h.c5
 clear h hl
 go_enter Tryz.func17, Tryz.ntmps17
 go_wp2_with fail
 refine K0.mono ?_
 rintro e w1 ⟨rfl, rfl⟩
 go_wp2_with fail
 refine K1.mono ?_
 rintro e w1 ⟨v, rfl, h2, h3⟩
 have H := zA (And.intro h2 h3)
 clear h2 h3 K0 K1
 go_wp2_with fail
 go_ret
 exact ⟨v, rfl, H.out.1, H.out.2⟩
theorem Ay7 (h : St D S g k w) : Calls Tryz.prog 18 #[.pointer (some ⟨g, 0, none⟩)] w fun e w' => e = .returned (.int .i64 k.frames.length) ∧ w' = w := by
 obtain ⟨v1, v2, v3, v4, ao, co, af, cf, h⟩ := h
 have K0 := Ag4 g w h.c0
 have K1 := Ae6 g 6 af k.frames.length cf w h.c6
 clear h
 go_enter Tryz.func18, Tryz.ntmps18
 go_wp2_with fail
 refine K0.mono ?_
 rintro e w1 ⟨rfl, rfl⟩
 go_wp2_with fail
 refine K1.mono ?_
 rintro e w1 ⟨rfl, rfl⟩
 go_wp2_with fail
 go_ret
 exact ⟨rfl, rfl⟩
theorem Ao1 {b : Nat} {j m c : Nat} (h : w.cell? ⟨g, j, none⟩ = some (.slice (some ⟨b, 0, none⟩) (m + 1) c)) (hm : m + 1 ≤ 9223372036854775807) : Calls Tryz.prog 43 #[.pointer (some ⟨g, j, none⟩)] w fun e w' => e = .returned (.pointer (some ⟨b, m * 6, none⟩)) ∧ Below w.heap.size w w' := by
 have h1 := Bv5 g j ⟨b, 0, none⟩ m c w h hm
 rw [Addr.add_lit, Nat.zero_add] at h1
 exact h1
theorem Ci0 {b : Nat} {j m c : Nat} (h : w.cell? ⟨g, j, none⟩ = some (.slice (some ⟨b, 0, none⟩) (m + 1) c)) (hm : m + 1 ≤ 9223372036854775807) : Calls Tryz.prog 118 #[.pointer (some ⟨g, j, none⟩)] w fun e w' => e = .returned (.pointer (some ⟨b, m * 3, none⟩)) ∧ Below w.heap.size w w' := by
 have h1 := Bv3 g j ⟨b, 0, none⟩ m c w h hm
 rw [Addr.add_lit, Nat.zero_add] at h1
 exact h1
theorem StV.top {v1 v2 v3 v4 : Value} {ao : Option Addr} {co : Nat} {af : Option Addr} {cf : Nat} (h : StV D S g k w v1 v2 v3 v4 ao co af cf) {f : Fr} (hf : k.frames[k.frames.length - 1]? = some f) : ∃ b m A1 c1 A2 c2 A4 c4, af = some ⟨b, 0, none⟩ ∧ k.frames.length = m + 1 ∧ FrAt (fun x => ¬ (S x ∨ D x)) w b (m * 6) f A1 c1 A2 c2 A4 c4 ∧ S b ∧ b ≠ g := by
 have hl := (List.getElem?_eq_some_iff.1 hf).1
 obtain ⟨b, A1, c1, A2, c2, A4, c4, e1, ha⟩ := h.frs.at hf
 subst e1
 obtain ⟨m, hm⟩ : ∃ m, k.frames.length = m + 1 := ⟨k.frames.length - 1, by omega⟩
 rw [hm, Nat.add_sub_cancel] at ha
 obtain ⟨rows, _, hr, _⟩ := h.frs
 exact ⟨b, m, A1, c1, A2, c2, A4, c4, rfl, hm, ha, (hr.blk b rfl).1, (h.af_ne b rfl).1⟩
theorem St.top (h : St D S g k w) {f : Fr} (hf : k.frames[k.frames.length - 1]? = some f) : ∃ v1 v2 v3 v4 ao co b cf m A1 c1 A2 c2 A4 c4, StV D S g k w v1 v2 v3 v4 ao co (some ⟨b, 0, none⟩) cf ∧ k.frames.length = m + 1 ∧ FrAt (fun x => ¬ (S x ∨ D x)) w b (m * 6) f A1 c1 A2 c2 A4 c4 ∧ S b ∧ b ≠ g := by
 obtain ⟨v1, v2, v3, v4, ao, co, af, cf, h⟩ := h
 have hl := (List.getElem?_eq_some_iff.1 hf).1
 obtain ⟨b, A1, c1, A2, c2, A4, c4, e1, ha⟩ := h.frs.at hf
 subst e1
 obtain ⟨m, hm⟩ : ∃ m, k.frames.length = m + 1 := ⟨k.frames.length - 1, by omega⟩
 rw [hm, Nat.add_sub_cancel] at ha
 obtain ⟨rows, _, hr, _⟩ := h.frs
 exact ⟨v1, v2, v3, v4, ao, co, b, cf, m, A1, c1, A2, c2, A4, c4, h, hm, ha, (hr.blk b rfl).1, (h.af_ne b rfl).1⟩
end
section
variable {D S : Nat → Prop} {g : Nat} {k : Chk} {w : World}
theorem rd_VT_k {l : List S39} {j : Nat} {x : S39} (h : l[j]? = some x) : Ac7 l (j : Int) = x := by
 simp [Ac7, List.getD_eq_getElem?_getD, h]
theorem Bg7 {A : Option Addr} {n : Nat} {l : List S39} (h : Kd.C k39 w A n l) {j : Nat} {x : S39} (hj : l[j]? = some x) : ∃ ad, A = some ad ∧ w.cell? (ad.add (j * 3)) = some (.int .i64 x.f0) ∧ w.cell? ⟨(ad.add (j * 3)).block, (ad.add (j * 3)).off + 1, none⟩ = some (.bool x.f1) ∧ w.cell? ⟨(ad.add (j * 3)).block, (ad.add (j * 3)).off + 2, none⟩ = some (.int .i64 x.f2) := by
 have hl := (List.getElem?_eq_some_iff.1 hj).1
 have := h.1
 have h1 := Aq4 h (j : Int) (by omega) (by omega)
 rw [rd_VT_k hj] at h1
 exact h1
theorem St.shut (h : St D S g k w) (hn : 0 < k.frames.length) : Calls Tryz.prog 42 #[.pointer (some ⟨g, 0, none⟩)] w fun e w' => e = .returned (.int .i64 0) ∧ w' = w := by
 obtain ⟨v1, v2, v3, v4, ao, co, af, cf, h⟩ := h
 exact Ag9 g af _ cf w h.c0 h.c6 hn
theorem StV.push {x : S39} {w' : World} {e : Ending} {v1 v2 v3 v4 : Value} {ao : Option Addr} {co : Nat} {af : Option Addr} {cf : Nat} (h : StV D S g k w v1 v2 v3 v4 ao co af cf) (hp : Au9 3 39 S g 5 #[.bool true, v1, v2, v3, v4, .slice ao k.ops.length co, .slice af k.frames.length cf] 102 ao (k.ops.map cVT) (cVT x) co w e w') :
  e = .returned (.tuple #[]) ∧ ∃ S' ao' co', (∀ x, S x → S' x) ∧ (∀ x, S' x → S x ∨ w.heap.size ≤ x) ∧ StV D S' g { k with ops := k.ops ++ [x] } w' v1 v2 v3 v4 ao' co' af cf ∧ Chg (fun y => y = g ∨ some y = ao.map (·.block) ∧ k.ops.length ≠ co) w w' := by
 obtain ⟨A', c', rfl, hcr, hbox, hch⟩ := hp
 rw [List.length_map] at hch
 have hc : Chg S w w' := hch.mono (fun x hx => .inl (hx.elim (fun e => e ▸ h.own) (fun e => (h.ops.blk x e.1).1)))
 have hS : ∀ x, S x → (S x ∨ w.heap.size ≤ x ∧ some x = A'.map (·.block)) := fun _ e => .inl e
 have hG : ∀ x, (S x ∨ w.heap.size ≤ x ∧ some x = A'.map (·.block)) → S x ∨ w.heap.size ≤ x := fun x e => e.imp id And.left
 refine ⟨rfl, fun x => S x ∨ w.heap.size ≤ x ∧ some x = A'.map (·.block), A', c', hS, hG, ?_, hch⟩
 refine h.out hc hS hG ?_ rfl rfl rfl (h.set.to hc (fun x e => .inl (.inl e)) (fun x e => e.elim (fun e => e.imp .inl And.left) (fun e => .inl (.inr e)))) ?_ ?_ ?_
 ·intro x hx
  rcases hx with hx | ⟨_, hx⟩
  ·exact Nat.lt_of_lt_of_le (h.lt x (.inl hx)) hc.size
  ·exact (hcr.blk x hx).2.1
 ·rw [hbox]
  simp
 ·have h1 : CR 3 39 (fun x => S x ∨ w.heap.size ≤ x ∧ some x = A'.map (·.block)) w' A' c' (k.ops.map cVT ++ [cVT x]) := hcr.tight.mono (fun y hy => (hcr.blk y hy).1.imp id (fun l => ⟨l, hy⟩))
  simpa using h1
 ·exact h.frs_step hch (fun x hx => hx.elim (fun e => e ▸ h.own) (fun e => (h.ops.blk x e.1).1)) (fun x hx hn => hn.elim (h.af_ne x hx).1 (fun e => (h.af_ne x hx).2 e.1)) hS hG
theorem Bi8 {v1 v2 v3 v4 : Value} {ao : Option Addr} {co : Nat} {af : Option Addr} {cf : Nat} (h : StV D S g k w v1 v2 v3 v4 ao co af cf) (x : S39) (hl : k.ops.length ≤ 4294967296) : Calls Tryz.prog 72 #[.pointer (some ⟨g, 5, none⟩), .agg #[.int .i64 x.f0, .bool x.f1, .int .i64 x.f2]] w fun e w' => e = .returned (.tuple #[]) ∧ ∃ S' ao' co', (∀ x, S x → S' x) ∧ (∀ x, S' x → S x ∨ w.heap.size ≤ x) ∧ StV D S' g { k with ops := k.ops ++ [x] } w' v1 v2 v3 v4 ao' co' af cf ∧ Chg (fun y => y = g ∨ some y = ao.map (·.block) ∧ k.ops.length ≠ co) w w' :=
 (Bq1 S g 5 _ 102 x ao co _ w h.box (by rw [List.length_map]; simp) h.ops (by decide) (by rw [List.length_map]; exact hl)).mono (fun _ _ hp => h.push hp)
theorem Ci1 (h : St D S g k w) (x : S39) (hl : k.ops.length ≤ 4294967296) : Calls Tryz.prog 72 #[.pointer (some ⟨g, 5, none⟩), .agg #[.int .i64 x.f0, .bool x.f1, .int .i64 x.f2]] w (KOut D S g { k with ops := k.ops ++ [x] } (.tuple #[]) w) := by
 obtain ⟨v1, v2, v3, v4, ao, co, af, cf, h⟩ := h
 refine (Bi8 h x hl).mono ?_
 rintro e w' ⟨rfl, S', ao', co', h1, h2, h3, h4⟩
 exact ⟨rfl, S', h1, h2, ⟨_, _, _, _, _, _, _, _, h3⟩, h4.mono (fun x hx => .inl (hx.elim (fun e => e ▸ h.own) (fun e => (h.ops.blk x e.1).1)))⟩
set_option maxHeartbeats 2000000 in
theorem Aj4 (h : St D S g k w) {A : Option Addr} {c : Nat} {l : List S39} (hl : LK k39 (fun x => S x ∨ D x) w (.slice A l.length c) l) (hn : 0 < k.frames.length) (hm : k.ops.length + l.length ≤ 4294967296) :
  Calls Tryz.prog 33 #[.pointer (some ⟨g, 0, none⟩), .slice A l.length c] w (KOut D S g { k with ops := k.ops ++ l } (.int .i64 0) w) := by
 have K0 := h.shut hn
 have Q0 := zA (Kst.refl h)
 have HL := zA hl
 have HM := zA hm
 have hl0 : l.length ≤ 9223372036854775807 := by omega
 obtain ⟨n, hnn⟩ : ∃ n, n = l.length := ⟨_, rfl⟩
 rw [← hnn] at HL hl0 ⊢
 have HN := zA hnn
 clear h hl hn hm hnn
 go_enter Tryz.func33, Tryz.ntmps33
 go_wp2_with fail
 refine K0.mono ?_
 rintro e w ⟨rfl, rfl⟩
 clear K0
 go_wp2_with fail
 go_loopw [15] (fun i W => ∃ (j : Nat) (S1 : Nat → Prop), i = .int .i64 j ∧ j ≤ n ∧ Kst D S g w { k with ops := k.ops ++ l.take j } S1 W) (fun i _ => n - (intOf i).toNat)
 case atStart => exact ⟨0, S, rfl, Nat.zero_le _, by simpa using Q0.out⟩
 case round =>
  obtain ⟨j, S1, rfl, hj, hq⟩ := hrel
  have Q := zA hq
  clear hq
  by_cases hlt : j < n
  ·obtain ⟨x, hx⟩ : ∃ x, l[j]? = some x := ⟨_, List.getElem?_eq_getElem (by rw [← HN.out]; exact hlt)⟩
   have HX := zA hx
   have LW := zA (HL.out.kst Q.out)
   obtain ⟨ad, eA, x0, x1, x2⟩ := Bg7 LW.out.reads.2.2 hx
   subst eA
   have HLT := zA hlt
   have HOL : Aa2 ((k.ops ++ l.take j).length ≤ 4294967296) := ⟨by rw [List.length_append, List.length_take]; have := HM.out; omega⟩
   clear hx
   go_wp2_with fail
   obtain ⟨w5, hw5⟩ : ∃ w5, w5 = World.drew (wr.alloc (.cells #[.int .i64 x.f0, .bool x.f1, .int .i64 x.f2] 39)) := ⟨_, rfl⟩
   have b5 : Below wr.heap.size wr w5 := by rw [hw5]; exact (bz_).drew
   have B5 := zA b5
   have hq5 : w5.heap[wr.heap.size]? = some (.cells #[.int .i64 x.f0, .bool x.f1, .int .i64 x.f2] 39 (0, 0)) := by rw [hw5]; exact Aa6 wr _
   have z0 : w5.cell? ⟨wr.heap.size, 0, none⟩ = some (.int .i64 x.f0) := (Aa0 hq5 0).trans rfl
   have z1 : w5.cell? ⟨wr.heap.size, 1, none⟩ = some (.bool x.f1) := (Aa0 hq5 1).trans rfl
   have z2 : w5.cell? ⟨wr.heap.size, 2, none⟩ = some (.int .i64 x.f2) := (Aa0 hq5 2).trans rfl
   have S5 := zA (Q.out.st.below b5)
   clear b5 hq5
   refine Ab3 (n := 5) (S := fun w' => w'.cell? ⟨wr.heap.size, 0, none⟩ = some (.int .i64 x.f0) ∧ w'.cell? ⟨wr.heap.size, 1, none⟩ = some (.bool x.f1) ∧ w'.cell? ⟨wr.heap.size, 2, none⟩ = some (.int .i64 x.f2)) (ds := [4]) (bm_ 5 0) (by kernel_rfl) rfl rfl ⟨(by rw [← hw5]; exact z0), (by rw [← hw5]; exact z1), (by rw [← hw5]; exact z2)⟩ (fun hHeld => ?_)
   rw [← hw5] at hHeld ⊢
   clear hw5 z0 z1 z2
   refine pz_ 0 19 5 1 ?_
   refine pz_ 1 20 5 3 ?_
   refine pz_ 2 21 5 7 ?_
   refine tz_ 3 22 5 15 hHeld ?_
   refine lz_ 4 23 5 31 fun K hK => ?_
   refine gz_ Tryz.func72 #[.pointer (some ⟨g, 5, none⟩), .agg #[.int .i64 x.f0, .bool x.f1, .int .i64 x.f2]] ?_
   with_reducible refine (Ci1 S5.out x HOL.out).mono ?_
   rintro e w6 ⟨rfl, S2, hk⟩
   have Q2 := zA (Q.out.trans (Kst.ahead B5.out hk))
   clear hk
   refine ⟨_, rfl, ?_⟩
   refine hK.out _ _ ?_
   clear hK K
   refine nz_ ?_
   refine dz_ ?_

   go_wp2_with fail
   go_roundw
   case rel => exact ⟨j + 1, S2, by go_num, HLT.out, by have h_ := Q2.out; rw [List.take_add_one, HX.out]; simpa using h_⟩
   case measure => have := HLT.out; simp [intOf]; omega
  ·obtain rfl : j = n := by omega
   clear hlt
   go_wp2_with fail
   go_ret
   exact ⟨rfl, S1, by have h_ := Q.out; rw [List.take_of_length_le (by have := HN.out; omega)] at h_; exact h_⟩
end
section
variable {D S : Nat → Prop} {g : Nat} {k : Chk} {w : World}
theorem StV.cut {v1 v2 v3 v4 : Value} {ao : Option Addr} {co : Nat} {af : Option Addr} {cf : Nat} (h : StV D S g k w v1 v2 v3 v4 ao co af cf) (m : Nat) (hm : m ≤ k.ops.length) : StV D S g { k with ops := k.ops.take m } (w.setCell ⟨g, 5, none⟩ (.slice ao m m)) v1 v2 v3 v4 ao m af cf := by
 have hch := Ae0 w g 5 (.slice ao m m)
 have hc : Chg S w (w.setCell ⟨g, 5, none⟩ (.slice ao m m)) := hch.mono (fun x e => .inl (by rw [e]; exact h.own))
 have hl : (k.ops.take m).length = m := by rw [List.length_take]; omega
 refine h.out hc (fun _ e => e) (fun _ e => .inl e) (fun x hx => Nat.lt_of_lt_of_le (h.lt x (.inl hx)) hc.size) rfl rfl rfl (h.set.to hc (fun x e => .inl (.inl e)) (fun x e => .inl e)) ?_ ?_ ?_
 ·rw [Aa7 h.box]
  simp only [hl]
  simp
 ·have h1 := (h.ops_step hch (fun x hx e => h.ao_ne x hx e) (fun _ e => e)).cut m (by rw [List.length_map]; exact hm)
  rw [← List.map_take] at h1
  exact h1
 ·exact h.frs_step hch (fun x hx => by rw [hx]; exact h.own) (fun x hx hn => (h.af_ne x hx).1 hn) (fun _ e => e) (fun _ e => .inl e)
theorem Ah9 {w : World} {p t : Nat} {a0 a1 a2 x0 x1 x2 : Value} (h : w.heap[p]? = some (.cells #[a0, a1, a2] t (0, 0))) : (((w.setCell ⟨p, 0, none⟩ x0).setCell ⟨p, 1, none⟩ x1).setCell ⟨p, 2, none⟩ x2).heap[p]? = some (.cells #[x0, x1, x2] t (0, 0)) := by
 have h1 := Aa7 (Aa7 (Aa7 h 0 x0) 1 x1) 2 x2
 simpa using h1
theorem Ah8 (w : World) (p : Nat) (x0 x1 x2 : Value) : Chg (fun k => k = p) w (((w.setCell ⟨p, 0, none⟩ x0).setCell ⟨p, 1, none⟩ x1).setCell ⟨p, 2, none⟩ x2) :=
 ((Ae0 w p 0 x0).trans (Ae0 _ p 1 x1) (fun _ e => .inl e) (fun _ e => .inl e)).trans (Ae0 _ p 2 x2) (fun _ e => .inl e) (fun _ e => .inl e)
theorem kvCut_w (g j : Nat) (A : Option Addr) (n c m : Nat) (w : World) (h : w.cell? ⟨g, j, none⟩ = some (.slice A n c)) (hf : w.frozen? ⟨g, j, none⟩ = false) (hm : m ≤ c) (hc : c ≤ 9223372036854775807) :
  Calls Tryz.prog 44 #[.pointer (some ⟨g, j, none⟩), .int .i64 (wrap64 (m : Int))] w fun e w' => e = .returned (.tuple #[]) ∧ w' = w.setCell ⟨g, j, none⟩ (.slice A m m) := by
 have hw : wrap64 (m : Int) = (m : Int) := by unfold wrap64; omega
 rw [hw]
 exact Bd7 g j A n c m w h hf hm hc
theorem Au5 (l : List S39) (n : Nat) (h : l.length = n + 1) : l[n]? = some (l.getLastD v0) := by
 rw [List.getLastD_eq_getLast?, List.getLast?_eq_getElem?, h, Nat.add_sub_cancel, List.getElem?_eq_getElem (by omega)]
 rfl
theorem Au6 (l : List S39) (n : Nat) (h : l.length = n + 1) : l.dropLast = l.take n := by rw [List.dropLast_eq_take, h, Nat.add_sub_cancel]
set_option maxHeartbeats 4000000 in
theorem kPop_yes {v1 v2 v3 v4 : Value} {ao : Option Addr} {co : Nat} {af : Option Addr} {cf : Nat} (h : StV D S g k w v1 v2 v3 v4 ao co af cf) {f : Fr} (hf : k.frames[k.frames.length - 1]? = some f) (hh : f.height < k.ops.length) (hm : k.ops.length ≤ 4294967296) (hn : k.frames.length ≤ 4294967296) :
  Calls Tryz.prog 79 #[.pointer (some ⟨g, 0, none⟩)] w fun e w' => e = .returned (.tuple #[.agg #[.int .i64 (k.ops.getLastD v0).f0, .bool (k.ops.getLastD v0).f1, .int .i64 (k.ops.getLastD v0).f2], .int .i64 0]) ∧ KG D S g v1 v2 v3 v4 af cf (fun _ c => c = k.ops.dropLast.length) { k with ops := k.ops.dropLast } w w' := by
 obtain ⟨n, hon⟩ : ∃ n, k.ops.length = n + 1 := ⟨k.ops.length - 1, by omega⟩
 have hx := Au5 k.ops n hon
 have hdl := Au6 k.ops n hon
 rw [hdl]
 obtain ⟨x, hxe⟩ : ∃ x, x = k.ops.getLastD v0 := ⟨_, rfl⟩
 rw [← hxe] at hx ⊢
 obtain ⟨b, m, A1, c1, A2, c2, A4, c4, eaf, hfm, ha, hb, hne⟩ := h.top hf
 subst eaf
 obtain ⟨ob, ocells, rfl, hob, hoc⟩ := h.ops.at0 (i := n) (cs := cVT x) (by rw [List.getElem?_map, hx]; rfl)
 have hpb := h.lt b (.inl hb)
 have hpo := Ac0 hob
 have hpg := h.lt g (.inl h.own)
 have hog := h.ao_ne ob rfl
 have hbw : Below w.heap.size w (w.alloc (.cells #[.int .i64 0, .bool false, .int .i64 0] 39)) := bz_
 have H1 := zA (h.more (p := w.heap.size) hbw (Nat.le_refl _) (by simp))
 have HL := zA hpg
 have c6 := H1.out.c6
 rw [hfm] at c6
 have K0 := Ag9 g (some ⟨b, 0, none⟩) (m + 1) cf _ H1.out.c0 c6 (by omega)
 have K1 := Ao1 c6 (by omega)
 have HA : Aa2 (w.cell? ⟨b, m * 6 + 3, none⟩ = some (.int .i64 f.height)) := ⟨ha.height⟩
 have HO : Aa2 (∀ j u, (cVT x)[j]? = some u → w.cell? ⟨ob, n * 3 + j, none⟩ = some u) := ⟨hoc⟩
 have hgt : decide ((f.height : Int) < ((n + 1 : Nat) : Int)) = true := by simp; omega
 have hgt2 : decide ((f.height : Int) < (n : Int) + 1) = true := by simp; omega
 have HON := zA hon
 have HX := zA hx
 have HLN : Aa2 (n = (k.ops.take n).length) := ⟨by rw [List.length_take]; omega⟩
 have PB := zA (And.intro hpb (And.intro hpo hog))
 have HM := zA hm
 clear h hf hfm ha hb hne hx hdl hxe hob hoc hpb hpo hog hon c6 hpg hm hh
 go_enter Tryz.func79, Tryz.ntmps79
 go_wp2_with fail
 refine K0.mono ?_
 rintro e w1 ⟨rfl, e1⟩
 subst e1
 clear K0
 go_wp2_with fail
 refine K1.mono ?_
 rintro e w2 ⟨rfl, hb2⟩
 have H2 := zA (H1.out.below hb2)
 have B2 := zA (hbw.trans (hb2.mono hbw.size))
 have c5 := H2.out.c5
 rw [HON.out] at c5
 have hh2 : w2.cell? ⟨b, m * 6 + 3, none⟩ = some (.int .i64 f.height) := (B2.out.cell PB.out.1).trans HA.out
 have R2 := zA (Aa3 (Aa6 w (.cells #[.int .i64 0, .bool false, .int .i64 0] 39)) hb2)
 clear hb2 K1 hbw
 go_wp2_with fail
 refine Ab3 (n := 10) (S := fun w' => w'.cell? ⟨g, 5, none⟩ = some (.slice (some ⟨ob, 0, none⟩) (n + 1) co) ∧ w'.cell? ⟨b, m * 6 + 3, none⟩ = some (.int .i64 f.height)) (ds := []) (bm_ 10 0) (by kernel_rfl) rfl rfl ⟨c5, hh2⟩ (fun hHeld => ?_)
 refine pz_ 0 18 10 1 ?_
 refine pz_ 1 19 10 3 ?_
 refine pz_ 2 20 10 7 ?_
 refine pz_ 4 22 10 23 ?_
 refine pz_ 5 23 10 55 ?_
 refine pz_ 6 24 10 119 ?_
 refine tz_ 7 25 10 247 hHeld ?_
 refine oz_ 3 21 10 255 fun K hK => ?_
 refine gz_ Tryz.func71 #[.pointer (some ⟨g, 5, none⟩)] ?_
 with_reducible refine (Ae5 g 5 _ (n + 1) co _ hHeld.1).mono ?_
 rintro e w6 ⟨rfl, rfl⟩
 refine ⟨_, rfl, ?_⟩
 refine hK.out _ _ ⟨hHeld.1, hHeld.2⟩ (fun hHeld => ?_)
 clear hK K
 refine nz_ ?_
 refine pz_ 8 26 10 511 ?_
 refine pz_ 9 17 10 1023 ?_
 refine dz_ ?_

 clear hh2
 have H3 := zA (H2.out.below (W' := w2.drew) (Below.refl _ _).drew)
 have R3 : Aa2 (w2.drew.heap[w.heap.size]? = some (.cells #[.int .i64 0, .bool false, .int .i64 0] 39 (0, 0))) := ⟨R2.out⟩
 have B3 : Aa2 (Below w.heap.size w w2.drew) := ⟨B2.out.drew⟩
 generalize World.drew w2 = w3 at H3 R3 B3 ⊢
 clear c5 H2 B2 R2
 have c5 := H3.out.c5
 rw [HON.out] at c5
 have K2 := Ci0 c5 (by have := HM.out; have := HON.out; omega)
 go_wp2_with fail
 refine K2.mono ?_
 rintro e w4 ⟨rfl, hb4⟩
 have H4 := zA (H3.out.below hb4)
 have B4 := zA (B3.out.trans (hb4.mono B3.out.size))
 have R4 := zA (Aa3 R3.out hb4)
 have o0 : w4.cell? ⟨ob, n * 3, none⟩ = some (.int .i64 x.f0) := (B4.out.cell PB.out.2.1).trans (HO.out 0 _ rfl)
 have o1 : w4.cell? ⟨ob, n * 3 + 1, none⟩ = some (.bool x.f1) := (B4.out.cell PB.out.2.1).trans (HO.out 1 _ rfl)
 have o2 : w4.cell? ⟨ob, n * 3 + 2, none⟩ = some (.int .i64 x.f2) := (B4.out.cell PB.out.2.1).trans (HO.out 2 _ rfl)
 clear hb4 K2 c5 H3 B3 R3
 go_wp2_with fail
 obtain ⟨w5, hw5⟩ : ∃ w5, w5 = World.drew (w4.alloc (.cells #[.int .i64 x.f0, .bool x.f1, .int .i64 x.f2] 39)) := ⟨_, rfl⟩
 have b5 : Below w4.heap.size w4 w5 := by rw [hw5]; exact (bz_).drew
 have H5 := zA (H4.out.below b5)
 have B5 := zA (B4.out.trans (b5.mono B4.out.size))
 have R5 := zA (Aa3 R4.out b5)
 have N5 : Aa2 (w5.heap[w4.heap.size]? = some (.cells #[.int .i64 x.f0, .bool x.f1, .int .i64 x.f2] 39 (0, 0))) := ⟨by rw [hw5]; exact Aa6 w4 _⟩
 have hw : wrap64 (((n + 1 : Nat) : Int) - 1) = (n : Int) := by have := HM.out; have := HON.out; unfold wrap64; omega
 have hw2 : True := trivial
 have c5 := H5.out.c5
 rw [HON.out] at c5
 have GQ : Aa2 (w4.heap.size ≠ g) := ⟨by have := HL.out; have := B4.out.size; omega⟩
 clear b5 H4 R4
 refine Ab3 (n := 9) (S := fun w' => w'.cell? ⟨g, 5, none⟩ = some (.slice (some ⟨ob, 0, none⟩) (n + 1) co)) (ds := [8]) (bm_ 9 0) (by kernel_rfl) rfl rfl ((by rw [← hw5]; exact c5)) (fun hHeld => ?_)
 rw [← hw5] at hHeld ⊢
 clear hw5 c5
 refine pz_ 0 33 9 1 ?_
 refine pz_ 1 34 9 3 ?_
 refine pz_ 2 35 9 7 ?_
 refine pz_ 3 36 9 15 ?_
 refine pz_ 4 37 9 31 ?_
 refine pz_ 5 38 9 63 ?_
 refine oz_ 6 39 9 127 fun K hK => ?_
 refine gz_ Tryz.func71 #[.pointer (some ⟨g, 5, none⟩)] ?_
 with_reducible refine (Ae5 g 5 _ (n + 1) co _ hHeld).mono ?_
 rintro e w5 ⟨rfl, rfl⟩
 refine ⟨_, rfl, ?_⟩
 refine hK.out _ _ (hHeld) (fun hHeld => ?_)
 clear hK K
 refine nz_ ?_
 refine pz_ 7 40 9 255 ?_
 refine lz_ 8 41 9 511 fun K hK => ?_
 refine gz_ Tryz.func44 #[.pointer (some ⟨g, 5, none⟩), .int .i64 (wrap64 (n : Int))] ?_
 with_reducible refine (kvCut_w g 5 _ (n + 1) co n _ hHeld (Aa1 H5.out.box 5) (by have := H5.out.co_le; have := HON.out; omega) H5.out.ops.cap).mono ?_
 rintro e w6 ⟨rfl, rfl⟩
 refine ⟨_, rfl, ?_⟩
 refine hK.out _ _ ?_
 clear hK K
 refine nz_ ?_
 refine dz_ ?_

 have KC := zA (StV.cut H5.out n (by have := HON.out; omega))
 obtain ⟨w6, hw6⟩ : ∃ w6, w6 = w5.setCell ⟨g, 5, none⟩ (.slice (some ⟨ob, 0, none⟩) n n) := ⟨_, rfl⟩
 rw [← hw6] at KC ⊢
 have CH : Aa2 (Chg (fun x => x = g) w5 w6) := ⟨by rw [hw6]; exact Ae0 w5 g 5 _⟩
 have GP : Aa2 (w.heap.size ≠ g) := ⟨by have := HL.out; omega⟩
 have r6 : w6.heap[w.heap.size]? = some (.cells #[.int .i64 0, .bool false, .int .i64 0] 39 (0, 0)) := by rw [hw6]; exact Ag6 R5.out (p := ⟨g, 5, none⟩) GP.out _
 have q6 : w6.heap[w4.heap.size]? = some (.cells #[.int .i64 x.f0, .bool x.f1, .int .i64 x.f2] 39 (0, 0)) := by rw [hw6]; exact Ag6 N5.out (p := ⟨g, 5, none⟩) GQ.out _
 have y0 := bc_ q6 0
 have y1 := bc_ q6 1
 have y2 := bc_ q6 2
 have p0 := bc_ r6 0
 have p1 := bc_ r6 1
 have p2 := bc_ r6 2
 have f0 := Aa1 r6 0
 have f1 := Aa1 r6 1
 have f2 := Aa1 r6 2
 have R6 := zA r6
 clear hw6 r6 q6 hw hw2
 go_wp2_with fail
 refine bodyPost_ret (v := .tuple #[.agg #[.int .i64 x.f0, .bool x.f1, .int .i64 x.f2], .int .i64 0]) ?_ rfl ?_
 ·exact Af0 (p := 2) (u := 3) rfl _ _ w.heap.size 39 #[.int .i64 x.f0, .bool x.f1, .int .i64 x.f2] (0, 0) _ rfl (Ah9 R6.out) Tryz.underlying39 rfl (by kernel_rfl)
 exact ⟨rfl, KG.cell B5.out (Nat.le_refl _) KC.out (fun _ e => e) (fun _ e => .inl e) CH.out (Ah8 _ _ _ _ _) (fun _ e => e) HLN.out⟩
set_option maxHeartbeats 4000000 in
theorem Ci3 {v1 v2 v3 v4 : Value} {ao : Option Addr} {co : Nat} {af : Option Addr} {cf : Nat} (h : StV D S g k w v1 v2 v3 v4 ao co af cf) {f : Fr} (hf : k.frames[k.frames.length - 1]? = some f) (hh : k.ops.length ≤ f.height) (hd : f.dead = true) (hm : k.ops.length ≤ 4294967296) (hn : k.frames.length ≤ 4294967296) :
  Calls Tryz.prog 79 #[.pointer (some ⟨g, 0, none⟩)] w fun e w' => e = .returned (.tuple #[.agg #[.int .i64 0, .bool false, .int .i64 0], .int .i64 0]) ∧ KG D S g v1 v2 v3 v4 af cf (fun a c => a = ao ∧ c = co) k w w' := by
 obtain ⟨n, hon⟩ : ∃ n, k.ops.length = n := ⟨_, rfl⟩
 obtain ⟨b, m, A1, c1, A2, c2, A4, c4, eaf, hfm, ha, hb, hne⟩ := h.top hf
 subst eaf
 have hpb := h.lt b (.inl hb)
 have hpg := h.lt g (.inl h.own)
 have hbw : Below w.heap.size w (w.alloc (.cells #[.int .i64 0, .bool false, .int .i64 0] 39)) := bz_
 have H1 := zA (h.more (p := w.heap.size) hbw (Nat.le_refl _) (by simp))
 have c6 := H1.out.c6
 rw [hfm] at c6
 have K0 := Ag9 g (some ⟨b, 0, none⟩) (m + 1) cf _ H1.out.c0 c6 (by omega)
 have K1 := Ao1 c6 (by omega)
 have hdd := ha.dead
 rw [hd] at hdd
 have HA := zA (And.intro ha.height hdd)
 have hgt : decide ((f.height : Int) < (n : Int)) = false := by simp; omega
 have hgt2 : decide (f.height < n) = false := by simp; omega
 have HON := zA hon
 have PB := zA hpb
 clear h hf hfm ha hb hne hpb hon c6 hpg hm hh hdd
 go_enter Tryz.func79, Tryz.ntmps79
 go_wp2_with fail
 refine K0.mono ?_
 rintro e w1 ⟨rfl, e1⟩
 subst e1
 clear K0
 go_wp2_with fail
 refine K1.mono ?_
 rintro e w2 ⟨rfl, hb2⟩
 have H2 := zA (H1.out.below hb2)
 have B2 := zA (hbw.trans (hb2.mono hbw.size))
 have c5 := H2.out.c5
 rw [HON.out] at c5
 have hh2 : w2.cell? ⟨b, m * 6 + 3, none⟩ = some (.int .i64 f.height) := (B2.out.cell PB.out).trans HA.out.1
 have hd2 : w2.cell? ⟨b, m * 6 + 5, none⟩ = some (.bool true) := (B2.out.cell PB.out).trans HA.out.2
 have r2 := Aa3 (Aa6 w (.cells #[.int .i64 0, .bool false, .int .i64 0] 39)) hb2
 have R2 := zA r2
 have p0 := bc_ r2 0
 have p1 := bc_ r2 1
 have p2 := bc_ r2 2
 have f0 := Aa1 r2 0
 have f1 := Aa1 r2 1
 have f2 := Aa1 r2 2
 clear hb2 K1 hbw r2
 go_wp2_with fail
 refine Ab3 (n := 10) (S := fun w' => w'.cell? ⟨g, 5, none⟩ = some (.slice ao n co) ∧ w'.cell? ⟨b, m * 6 + 3, none⟩ = some (.int .i64 f.height)) (ds := []) (bm_ 10 0) (by kernel_rfl) rfl rfl ⟨c5, hh2⟩ (fun hHeld => ?_)
 refine pz_ 0 18 10 1 ?_
 refine pz_ 1 19 10 3 ?_
 refine pz_ 2 20 10 7 ?_
 refine pz_ 4 22 10 23 ?_
 refine pz_ 5 23 10 55 ?_
 refine pz_ 6 24 10 119 ?_
 refine tz_ 7 25 10 247 hHeld ?_
 refine oz_ 3 21 10 255 fun K hK => ?_
 refine gz_ Tryz.func71 #[.pointer (some ⟨g, 5, none⟩)] ?_
 with_reducible refine (Ae5 g 5 _ n co _ hHeld.1).mono ?_
 rintro e w6 ⟨rfl, rfl⟩
 refine ⟨_, rfl, ?_⟩
 refine hK.out _ _ ⟨hHeld.1, hHeld.2⟩ (fun hHeld => ?_)
 clear hK K
 refine nz_ ?_
 refine pz_ 8 26 10 511 ?_
 refine pz_ 9 17 10 1023 ?_
 refine dz_ ?_

 go_wp2_with fail
 refine bodyPost_ret (v := .tuple #[.agg #[.int .i64 0, .bool false, .int .i64 0], .int .i64 0]) ?_ rfl ?_
 ·exact Af0 (p := 2) (u := 3) rfl _ _ w.heap.size 39 #[.int .i64 0, .bool false, .int .i64 0] (0, 0) _ rfl (Ah9 (t := 39) R2.out) Tryz.underlying39 rfl (by kernel_rfl)
 exact ⟨rfl, KG.cell B2.out (Nat.le_refl _) H2.out (fun _ e => e) (fun _ e => .inl e) (Chg.refl _ _) ((Chg.of_below (Below.refl _ _).drew (fun k => k = w.heap.size)).trans (Ah8 _ _ _ _ _) (fun _ e => .inl e) (fun _ e => .inl e)) (fun _ e => e) ⟨rfl, rfl⟩⟩
set_option maxHeartbeats 4000000 in
theorem kPop_no {v1 v2 v3 v4 : Value} {ao : Option Addr} {co : Nat} {af : Option Addr} {cf : Nat} (h : StV D S g k w v1 v2 v3 v4 ao co af cf) {f : Fr} (hf : k.frames[k.frames.length - 1]? = some f) (hh : k.ops.length ≤ f.height) (hd : f.dead = false) (hm : k.ops.length ≤ 4294967296) (hn : k.frames.length ≤ 4294967296) :
  Calls Tryz.prog 79 #[.pointer (some ⟨g, 0, none⟩)] w fun e w' => e = .returned (.tuple #[.agg #[.int .i64 0, .bool false, .int .i64 0], .int .i64 130]) ∧ KG D S g v1 v2 v3 v4 af cf (fun a c => a = ao ∧ c = co) k w w' := by
 obtain ⟨n, hon⟩ : ∃ n, k.ops.length = n := ⟨_, rfl⟩
 obtain ⟨b, m, A1, c1, A2, c2, A4, c4, eaf, hfm, ha, hb, hne⟩ := h.top hf
 subst eaf
 have hpb := h.lt b (.inl hb)
 have hpg := h.lt g (.inl h.own)
 have hbw : Below w.heap.size w (w.alloc (.cells #[.int .i64 0, .bool false, .int .i64 0] 39)) := bz_
 have H1 := zA (h.more (p := w.heap.size) hbw (Nat.le_refl _) (by simp))
 have c6 := H1.out.c6
 rw [hfm] at c6
 have K0 := Ag9 g (some ⟨b, 0, none⟩) (m + 1) cf _ H1.out.c0 c6 (by omega)
 have K1 := Ao1 c6 (by omega)
 have hdd := ha.dead
 rw [hd] at hdd
 have HA := zA (And.intro ha.height hdd)
 have hgt : decide ((f.height : Int) < (n : Int)) = false := by simp; omega
 have hgt2 : decide (f.height < n) = false := by simp; omega
 have HON := zA hon
 have PB := zA hpb
 clear h hf hfm ha hb hne hpb hon c6 hpg hm hh hdd
 go_enter Tryz.func79, Tryz.ntmps79
 go_wp2_with fail
 refine K0.mono ?_
 rintro e w1 ⟨rfl, e1⟩
 subst e1
 clear K0
 go_wp2_with fail
 refine K1.mono ?_
 rintro e w2 ⟨rfl, hb2⟩
 have H2 := zA (H1.out.below hb2)
 have B2 := zA (hbw.trans (hb2.mono hbw.size))
 have c5 := H2.out.c5
 rw [HON.out] at c5
 have hh2 : w2.cell? ⟨b, m * 6 + 3, none⟩ = some (.int .i64 f.height) := (B2.out.cell PB.out).trans HA.out.1
 have hd2 : w2.cell? ⟨b, m * 6 + 5, none⟩ = some (.bool false) := (B2.out.cell PB.out).trans HA.out.2
 have r2 := Aa3 (Aa6 w (.cells #[.int .i64 0, .bool false, .int .i64 0] 39)) hb2
 have R2 := zA r2
 have p0 := bc_ r2 0
 have p1 := bc_ r2 1
 have p2 := bc_ r2 2
 have f0 := Aa1 r2 0
 have f1 := Aa1 r2 1
 have f2 := Aa1 r2 2
 clear hb2 K1 hbw r2
 go_wp2_with fail
 refine Ab3 (n := 10) (S := fun w' => w'.cell? ⟨g, 5, none⟩ = some (.slice ao n co) ∧ w'.cell? ⟨b, m * 6 + 3, none⟩ = some (.int .i64 f.height)) (ds := []) (bm_ 10 0) (by kernel_rfl) rfl rfl ⟨c5, hh2⟩ (fun hHeld => ?_)
 refine pz_ 0 18 10 1 ?_
 refine pz_ 1 19 10 3 ?_
 refine pz_ 2 20 10 7 ?_
 refine pz_ 4 22 10 23 ?_
 refine pz_ 5 23 10 55 ?_
 refine pz_ 6 24 10 119 ?_
 refine tz_ 7 25 10 247 hHeld ?_
 refine oz_ 3 21 10 255 fun K hK => ?_
 refine gz_ Tryz.func71 #[.pointer (some ⟨g, 5, none⟩)] ?_
 with_reducible refine (Ae5 g 5 _ n co _ hHeld.1).mono ?_
 rintro e w6 ⟨rfl, rfl⟩
 refine ⟨_, rfl, ?_⟩
 refine hK.out _ _ ⟨hHeld.1, hHeld.2⟩ (fun hHeld => ?_)
 clear hK K
 refine nz_ ?_
 refine pz_ 8 26 10 511 ?_
 refine pz_ 9 17 10 1023 ?_
 refine dz_ ?_

 go_wp2_with fail
 refine bodyPost_ret (v := .tuple #[.agg #[.int .i64 0, .bool false, .int .i64 0], .int .i64 130]) ?_ rfl ?_
 ·exact Af0 (p := 2) (u := 3) rfl _ _ w.heap.size 39 #[.int .i64 0, .bool false, .int .i64 0] (0, 0) _ rfl (Ah9 (t := 39) R2.out) Tryz.underlying39 rfl (by kernel_rfl)
 exact ⟨rfl, KG.cell B2.out (Nat.le_refl _) H2.out (fun _ e => e) (fun _ e => .inl e) (Chg.refl _ _) ((Chg.of_below (Below.refl _ _).drew (fun k => k = w.heap.size)).trans (Ah8 _ _ _ _ _) (fun _ e => .inl e) (fun _ e => .inl e)) (fun _ e => e) ⟨rfl, rfl⟩⟩
theorem Bv7 {v1 v2 v3 v4 : Value} {ao : Option Addr} {co : Nat} {af : Option Addr} {cf : Nat} (h : StV D S g k w v1 v2 v3 v4 ao co af cf) {f : Fr} (hf : k.frames[k.frames.length - 1]? = some f) (hh : f.height ≤ k.ops.length) (hm : k.ops.length ≤ 4294967296) (hn : k.frames.length ≤ 4294967296) {er : Int} {x : S39} {o' : List S39} (hp : popM f.height f.dead k.ops = (er, x, o')) :
  Calls Tryz.prog 79 #[.pointer (some ⟨g, 0, none⟩)] w fun e w' => e = .returned (.tuple #[.agg #[.int .i64 x.f0, .bool x.f1, .int .i64 x.f2], .int .i64 er]) ∧ KG D S g v1 v2 v3 v4 af cf (fun _ c => f.height < k.ops.length → c = o'.length) { k with ops := o' } w w' := by
 unfold popM at hp
 by_cases h1 : f.height < k.ops.length
 ·rw [if_pos h1] at hp
  injection hp with e1 e2
  injection e2 with e2 e3
  subst e1 e2 e3
  refine (kPop_yes h hf h1 hm hn).mono ?_
  rintro e w' ⟨rfl, S', ao', co', a1, a2, a3, a4, a5⟩
  exact ⟨rfl, S', ao', co', a1, a2, a3, a4, fun _ => a5⟩
 ·rw [if_neg h1] at hp
  cases hd : f.dead with
  | true =>
   rw [if_pos hd] at hp
   injection hp with e1 e2
   injection e2 with e2 e3
   subst e1 e2 e3
   refine (Ci3 (k := k) h hf (Nat.le_of_not_lt h1) hd hm hn).mono ?_
   rintro e w' ⟨rfl, S', ao', co', a1, a2, a3, a4, a5⟩
   exact ⟨rfl, S', ao', co', a1, a2, a3, a4, fun l => absurd l h1⟩
  | false =>
   rw [if_neg (by rw [hd]; simp)] at hp
   injection hp with e1 e2
   injection e2 with e2 e3
   subst e1 e2 e3
   refine (kPop_no (k := k) h hf (Nat.le_of_not_lt h1) hd hm hn).mono ?_
   rintro e w' ⟨rfl, S', ao', co', a1, a2, a3, a4, a5⟩
   exact ⟨rfl, S', ao', co', a1, a2, a3, a4, fun l => absurd l h1⟩
theorem CR.put {sz e : Nat} {ok : Nat → Prop} {W : World} {b c : Nat} {xs : List (List Value)} (h : CR sz e ok W (some ⟨b, 0, none⟩) c xs) {i j : Nat} {cs : List Value} (hi : xs[i]? = some cs) (hj : j < sz) (u : Value) (hu : u.oneCell' = true) :
  CR sz e ok (W.setCell ⟨b, i * sz + j, none⟩ u) (some ⟨b, 0, none⟩) c (xs.set i (cs.set j u)) := by
 have hcell := fun q v (hq : cs[q]? = some v) => h.cell hi hq
 obtain ⟨ys, c0, h1, h2, h3⟩ := h
 have hle := CR.le h2
 have hil := (List.getElem?_eq_some_iff.1 hi).1
 have hyi : ys[i]? = some cs := by
  rw [h2, List.getElem?_take, if_pos hil] at hi
  exact hi
 have hcs : cs.length = sz ∧ ∀ v ∈ cs, v.oneCell' = true := by
  obtain ⟨_, inner, ho, hr⟩ := h1
  obtain ⟨e1, e2, e3⟩ := hr.2 i cs hyi
  rw [e1] at e2 e3
  exact ⟨e2, e3⟩
 have hset : cs.set j u = cs.take j ++ [u] ++ cs.drop (j + [u].length) := by
  rw [List.set_eq_take_append_cons_drop, if_pos (by have h9 := hcs.1; omega)]
  simp
 have hM : (Kd.raw sz).M W 0 (fun _ => False) (cs.set j u) (cs.take j ++ [u] ++ cs.drop (j + [u].length)) := by
  rw [← hset]
  refine ⟨rfl, by rw [List.length_set]; exact hcs.1, fun v hv => ?_⟩
  rcases List.mem_or_eq_of_mem_set hv with hv | rfl
  ·exact hcs.2 v hv
  ·exact hu
 obtain ⟨r1, r2⟩ := Kd.R_seg h1 (i : Int) (by omega) (by omega) (c := cs) (seg := [u]) (j := j) (x' := cs.set j u) (okp := fun _ => False) hcs.1 (fun q v hq => by
  obtain ⟨ad, e1, e2⟩ := hcell q v hq
  injection e1 with e1
  rw [← e1, Addr.add_lit, Nat.zero_add] at e2
  rw [Int.toNat_natCast]
  exact e2) (by show j + 1 ≤ sz; omega) hM (fun _ e => e.elim)
 rw [Int.toNat_natCast] at r1
 refine ⟨ys.set i (cs.set j u), c0, by rw [List.length_set]; exact r1, ?_, ?_⟩
 ·rw [List.length_set]
  conv => lhs; rw [h2, ← List.take_set]
 ·rw [List.length_set]
  rcases h3 with ⟨rfl, rfl⟩ | h3
  ·exact .inl ⟨rfl, rfl⟩
  ·exact .inr h3
theorem FmR.kill {ok sh : Nat → Prop} {W : World} {b c : Nat} {xs : List Fr} (h : FmR ok sh W (some ⟨b, 0, none⟩) c xs) {i : Nat} {f : Fr} (hi : xs[i]? = some f) (hb : ¬ sh b) : FmR ok sh (W.setCell ⟨b, i * 6 + 5, none⟩ (.bool true)) (some ⟨b, 0, none⟩) c (xs.set i { f with dead := true }) := by
 obtain ⟨rows, hl, hr, hf⟩ := h
 have hil := (List.getElem?_eq_some_iff.1 hi).1
 have hri : rows[i]? = some rows[i] := List.getElem?_eq_getElem (by omega)
 have hst : ∀ {x : Fr} {cs : List Value}, Kd.FK k105 W sh x.p cs → Kd.FK k105 (W.setCell ⟨b, i * 6 + 5, none⟩ (.bool true)) sh x.p cs := fun h => Kd.Al0 h (fun k hk _ => Below.heap_setCell W ⟨b, i * 6 + 5, none⟩ _ k (fun e => hb (by have e' : k = b := e; rw [← e']; exact hk)))
 refine ⟨rows.set i (rows[i].set 5 (.bool true)), by rw [List.length_set, List.length_set, hl], hr.put hri (by decide) _ rfl, fun j x cs hx hc => ?_⟩
 by_cases hji : i = j
 ·subst hji
  rw [List.getElem?_set_self hil] at hx
  rw [List.getElem?_set_self (by omega)] at hc
  injection hx with hx
  injection hc with hc
  subst hx hc
  obtain ⟨A1, c1, A2, c2, A4, c4, e1, l1, g1, l2, g2, l4, g4⟩ := Bj1 (hst (hf i f _ hi hri))
  rw [e1]
  exact By7 _ sh (Fr.p { f with dead := true }) l1 g1 l2 g2 l4 g4
 ·rw [List.getElem?_set_ne hji] at hx hc
  exact hst (hf j x cs hx hc)
theorem Kst.kill {v1 v2 v3 v4 : Value} {ao : Option Addr} {co b cf m : Nat} {f : Fr} (h : StV D S g k w v1 v2 v3 v4 ao co (some ⟨b, 0, none⟩) cf) (hf : k.frames[m]? = some f) : Kst D S g w { k with frames := k.frames.set m { f with dead := true } } S (w.setCell ⟨b, m * 6 + 5, none⟩ (.bool true)) := by
 have hch := Ae0 w b (m * 6 + 5) (.bool true)
 have hbS : S b := by
  obtain ⟨rows, _, hr, _⟩ := h.frs
  exact (hr.blk b rfl).1
 have hn := h.af_ne b rfl
 have hc : Chg S w (w.setCell ⟨b, m * 6 + 5, none⟩ (.bool true)) := hch.mono (fun x e => .inl (by rw [e]; exact hbS))
 refine ⟨fun _ e => e, fun _ e => .inl e, ⟨v1, v2, v3, v4, ao, co, some ⟨b, 0, none⟩, cf, h.out hc (fun _ e => e) (fun _ e => .inl e) (fun x hx => Nat.lt_of_lt_of_le (h.lt x (.inl hx)) hc.size) rfl rfl rfl (h.set.to hc (fun x e => .inl (.inl e)) (fun x e => .inl e)) ?_ ?_ ?_⟩, hc⟩
 ·rw [Ag6 h.box (p := ⟨b, m * 6 + 5, none⟩) (fun e => hn.1 e.symm)]
  simp only [List.length_set]
 ·exact h.ops_step hch (fun x hx e => hn.2 (by rw [← e]; exact hx)) (fun _ e => e)
 ·exact h.frs.kill hf (fun e => e (.inl hbS))
set_option maxHeartbeats 4000000 in
theorem An2 (h : St D S g k w) {f : Fr} (hf : k.frames[k.frames.length - 1]? = some f) (hh : f.height ≤ k.ops.length) (hm : k.ops.length ≤ 4294967296) (hn : k.frames.length ≤ 4294967296) :
  Calls Tryz.prog 13 #[.pointer (some ⟨g, 0, none⟩)] w (KOut D S g { k with ops := k.ops.take f.height, frames := k.frames.set (k.frames.length - 1) { f with dead := true } } (.int .i64 0) w) := by
 obtain ⟨v1, v2, v3, v4, ao, co, b, cf, m, A1, c1, A2, c2, A4, c4, h, hfm, ha, hb, hne⟩ := h.top hf
 obtain ⟨n, hon⟩ : ∃ n, k.ops.length = n := ⟨_, rfl⟩
 have hpb := h.lt b (.inl hb)
 have H1 := zA h
 have c6 := H1.out.c6
 rw [hfm] at c6
 have K0 := Ag9 g (some ⟨b, 0, none⟩) (m + 1) cf _ H1.out.c0 c6 (by omega)
 have K1 := Ao1 c6 (by omega)
 have hhe := ha.height
 have HA := zA (And.intro hhe ha.dead)
 have HFM := zA hfm
 have HF : Aa2 (k.frames[m]? = some f) := ⟨by rw [hfm, Nat.add_sub_cancel] at hf; exact hf⟩
 have HON := zA hon
 have PB := zA hpb
 have HNE := zA hne
 have HLE : Aa2 (f.height ≤ n) := ⟨by omega⟩
 rw [hfm, Nat.add_sub_cancel]
 clear h hf hfm ha hb hne hpb hon c6 hm hh hhe
 go_enter Tryz.func13, Tryz.ntmps13
 go_wp2_with fail
 refine K0.mono ?_
 rintro e w1 ⟨rfl, e1⟩
 subst e1
 clear K0
 go_wp2_with fail
 refine K1.mono ?_
 rintro e w2 ⟨rfl, hb2⟩
 have H2 := zA (H1.out.below hb2)
 have B2 := zA hb2
 have c5 := H2.out.c5
 rw [HON.out] at c5
 have hh2 := (B2.out.cell PB.out).trans HA.out.1
 clear hb2 K1
 go_wp2_with fail
 refine Ab3 (n := 8) (S := fun w' => w'.cell? ⟨g, 5, none⟩ = some (.slice ao n co) ∧ w'.cell? ⟨b, m * 6 + 3, none⟩ = some (.int .i64 f.height)) (ds := [7]) (bm_ 8 0) (by kernel_rfl) rfl rfl ⟨c5, hh2⟩ (fun hHeld => ?_)
 refine pz_ 0 14 8 1 ?_
 refine pz_ 1 15 8 3 ?_
 refine pz_ 2 16 8 7 ?_
 refine pz_ 3 17 8 15 ?_
 refine pz_ 4 18 8 31 ?_
 refine pz_ 5 19 8 63 ?_
 refine tz_ 6 20 8 127 hHeld ?_
 refine lz_ 7 21 8 255 fun K hK => ?_
 refine gz_ Tryz.func44 #[.pointer (some ⟨g, 5, none⟩), .int .i64 f.height] ?_
 with_reducible refine (Bd7 g 5 ao n co f.height _ hHeld.1 (Aa1 (w := w2.drew) H2.out.box 5) (by have := H2.out.co_le; have := HON.out; have := HLE.out; omega) H2.out.ops.cap).mono ?_
 rintro e w6 ⟨rfl, rfl⟩
 refine ⟨_, rfl, ?_⟩
 refine hK.out _ _ ?_
 clear hK K
 refine nz_ ?_
 refine dz_ ?_

 have H3 := zA (H2.out.below (W' := w2.drew) (Below.refl _ _).drew)
 have KC := zA (StV.cut H3.out f.height (by have := HON.out; have := HLE.out; omega))
 have B3 := zA (B2.out.drew)
 obtain ⟨w4, hw4⟩ : ∃ w4, w4 = w2.drew.setCell ⟨g, 5, none⟩ (.slice ao f.height f.height) := ⟨_, rfl⟩
 rw [← hw4] at KC ⊢
 have b4 : w4.cell? ⟨b, m * 6 + 5, none⟩ = some (.bool f.dead) := by
  rw [hw4, cell_far (p := ⟨g, 5, none⟩) (a := ⟨b, m * 6 + 5, none⟩) HNE.out]
  exact (B2.out.cell PB.out).trans HA.out.2
 have f4 : w4.frozen? ⟨b, m * 6 + 5, none⟩ = false := by
  obtain ⟨rows, _, hr, _⟩ := KC.out.frs
  obtain ⟨_, _, cs, h1⟩ := hr.blk b rfl
  exact Aa1 h1 _
 have C4 : Aa2 (Chg S w1 w4) := ⟨(Chg.of_below B3.out (fun _ => False)).trans (by rw [hw4]; exact Ae0 _ g 5 _) (fun _ e => e.elim) (fun x e => .inl (by rw [e]; exact KC.out.own))⟩
 clear hw4 hHeld hh2 c5
 go_wp2_with fail
 go_ret
 have Q := Kst.kill KC.out (m := m) (f := f) HF.out
 exact ⟨rfl, S, ⟨fun _ e => e, fun _ e => .inl e, Q.st, C4.out.trans Q.chg (fun _ e => .inl e) (fun _ e => .inl e)⟩⟩
end
structure GOk (l : List S132) : Prop where
 clo : Clo l
 inn : LIn l
 w : wL l + l.length ≤ 1048576
theorem GOk.fl {l : List S132} (h : GOk l) : (flat l).length ≤ 1048576 := by
 have h1 := Ab4 l
 have h2 := h.w
 rw [Ad1]
 omega
theorem GOk.la {l : List S132} (h : GOk l) {S : Nat → Prop} {w : World} {A : Option Addr} {c : Nat} (hl : LK k132 S w (.slice A l.length c) l) : LA w A c l := ⟨hl.reads.2.2, hl.reads.2.1, h.inn, h.w⟩
set_option maxHeartbeats 2000000 in
theorem Bn3 {l : List S132} (hg : GOk l) {A : Option Addr} {c : Nat} {w : World} (hl : LA w A c l) (htab : Lib.TabBelow Tryz.prog w.heap.size w "internal/strconv.uint64pow10" .u64 Lib.pow10Tab) (a b : S39) :
  Calls Tryz.prog 119 #[.slice A l.length c, .agg #[.int .i64 a.f0, .bool a.f1, .int .i64 a.f2], .agg #[.int .i64 b.f0, .bool b.f1, .int .i64 b.f2]] w fun e w' => e = .returned (.bool (valM l a b)) ∧ Below w.heap.size w w' := by
 have ba : Below w.heap.size w ((w.alloc (.cells #[.int .i64 a.f0, .bool a.f1, .int .i64 a.f2] 39)).alloc (.cells #[.int .i64 b.f0, .bool b.f1, .int .i64 b.f2] 39)) := (bz_).alloc (by simp) _
 have BA := zA ba
 by_cases h5 : a.f0 = 5 ∧ b.f0 = 5
 ·obtain ⟨W, hW⟩ : ∃ W, W = ((w.alloc (.cells #[.int .i64 a.f0, .bool a.f1, .int .i64 a.f2] 39)).alloc (.cells #[.int .i64 b.f0, .bool b.f1, .int .i64 b.f2] 39)) := ⟨_, rfl⟩
  have q0 : W.heap[w.heap.size]? = some (.cells #[.int .i64 a.f0, .bool a.f1, .int .i64 a.f2] 39 (0, 0)) := by rw [hW]; exact Aa5 (Aa6 w (.cells #[.int .i64 a.f0, .bool a.f1, .int .i64 a.f2] 39)) _
  have q1 : W.heap[w.heap.size + 1]? = some (.cells #[.int .i64 b.f0, .bool b.f1, .int .i64 b.f2] 39 (0, 0)) := by
   rw [hW]
   have h_ := Aa6 (w.alloc (.cells #[.int .i64 a.f0, .bool a.f1, .int .i64 a.f2] 39)) (.cells #[.int .i64 b.f0, .bool b.f1, .int .i64 b.f2] 39)
   rw [World.size_alloc] at h_
   exact h_
  have Q0 := zA (And.intro q0 q1)
  rw [← hW] at ba BA
  have K := Ay5 A c l W (hl.below ba) (fun w' hb => htab w' (ba.trans (hb.mono ba.size)))
  have HG := zA hg
  obtain ⟨ha, hb⟩ := h5
  have e1 : (a.f0 != 5) = false := by simp [ha]
  have e2 : (b.f0 != 5) = false := by simp [hb]
  have HV := zA (And.intro ha hb)
  clear hg hl htab ba ha hb q0 q1
  go_enter Tryz.func119, Tryz.ntmps119
  go_wp2_with fail
  rw [← hW]
  clear hW
  refine K.mono ?_
  rintro e w2 ⟨hb, h2⟩
  have q0 := Aa3 Q0.out.1 hb
  have q1 := Aa3 Q0.out.2 hb
  rcases h2 with ⟨_, rfl, hctx⟩ | ⟨hn, _⟩
  rotate_left
  ·exact absurd HG.out.clo hn
  have K2 := Bi0 l HG.out.clo _ a b w2 hctx HG.out.fl
  have B2 := zA (BA.out.trans (hb.mono BA.out.size))
  have z0 : w2.cell? ⟨w.heap.size, 0, none⟩ = some (.int .i64 a.f0) := (Aa0 q0 0).trans rfl
  have z1 : w2.cell? ⟨w.heap.size, 1, none⟩ = some (.bool a.f1) := (Aa0 q0 1).trans rfl
  have z2 : w2.cell? ⟨w.heap.size, 2, none⟩ = some (.int .i64 a.f2) := (Aa0 q0 2).trans rfl
  have y0 : w2.cell? ⟨w.heap.size + 1, 0, none⟩ = some (.int .i64 b.f0) := (Aa0 q1 0).trans rfl
  have y1 : w2.cell? ⟨w.heap.size + 1, 1, none⟩ = some (.bool b.f1) := (Aa0 q1 1).trans rfl
  have y2 : w2.cell? ⟨w.heap.size + 1, 2, none⟩ = some (.int .i64 b.f2) := (Aa0 q1 2).trans rfl
  clear hb hctx q0 q1 K e1 e2
  go_wp2_with fail
  refine K2.mono ?_
  rintro e w3 ⟨rfl, hb3⟩
  have B3 := zA (B2.out.trans (hb3.mono B2.out.size))
  clear hb3 K2
  go_wp2_with fail
  go_ret
  exact ⟨rfl, B3.out⟩
 ·have K := Bh9 none l a b ((w.alloc (.cells #[.int .i64 a.f0, .bool a.f1, .int .i64 a.f2] 39)).alloc (.cells #[.int .i64 b.f0, .bool b.f1, .int .i64 b.f2] 39)) h5
  clear hg hl htab ba
  by_cases ha : a.f0 = 5
  ·have hb : ¬ b.f0 = 5 := fun e => h5 ⟨ha, e⟩
   have e1 : (a.f0 != 5) = false := by simp [ha]
   have e2 : (b.f0 != 5) = true := by simp [hb]
   clear ha hb h5
   go_enter Tryz.func119, Tryz.ntmps119
   go_wp2_with fail
   refine K.mono ?_
   rintro e w3 ⟨rfl, hb3⟩
   have B3 := zA (BA.out.trans (hb3.mono BA.out.size))
   clear hb3 K
   go_wp2_with fail
   go_ret
   exact ⟨rfl, B3.out⟩
  ·have e1 : (a.f0 != 5) = true := by simp [ha]
   clear ha h5
   go_enter Tryz.func119, Tryz.ntmps119
   go_wp2_with fail
   refine K.mono ?_
   rintro e w3 ⟨rfl, hb3⟩
   have B3 := zA (BA.out.trans (hb3.mono BA.out.size))
   clear hb3 K
   go_wp2_with fail
   go_ret
   exact ⟨rfl, B3.out⟩
set_option maxHeartbeats 2000000 in
theorem Al3 {l : List S132} (hg : GOk l) {A : Option Addr} {c : Nat} {w : World} (hl : LA w A c l) (htab : Lib.TabBelow Tryz.prog w.heap.size w "internal/strconv.uint64pow10" .u64 Lib.pow10Tab) (Aa : Option Addr) (ca : Nat) (us : List S39) (Ab : Option Addr) (cb : Nat) (vs : List S39) (hA : Kd.C k39 w Aa us.length us) (hB : Kd.C k39 w Ab vs.length vs) (hn : us.length ≤ 1048576) :
  Calls Tryz.prog 46 #[.slice A l.length c, .slice Aa us.length ca, .slice Ab vs.length cb] w fun e w' => e = .returned (.bool (Az5 l us vs)) ∧ Below w.heap.size w w' := by
 have K := Ay5 A c l _ hl htab
 have HG := zA hg
 have HAB := zA (And.intro hA hB)
 have HN := zA hn
 clear hg hl htab hA hB hn
 go_enter Tryz.func46, Tryz.ntmps46
 go_wp2_with fail
 refine K.mono ?_
 rintro e w2 ⟨hb, h2⟩
 rcases h2 with ⟨_, rfl, hctx⟩ | ⟨hn, _⟩
 rotate_left
 ·exact absurd HG.out.clo hn
 have K2 := Bs9 _ l Aa ca us Ab cb vs w2 hctx HG.out.fl HG.out.clo (Kd.Ab1 HAB.out.1 hb) (Kd.Ab1 HAB.out.2 hb) HN.out
 have B2 := zA hb
 clear hb hctx K
 go_wp2_with fail
 refine K2.mono ?_
 rintro e w3 ⟨rfl, hb3⟩
 have B3 := zA (B2.out.trans (hb3.mono B2.out.size))
 clear hb3 K2
 go_wp2_with fail
 go_ret
 exact ⟨rfl, B3.out⟩
section
variable {D S : Nat → Prop} {g : Nat} {k : Chk} {w : World}
set_option maxHeartbeats 2000000 in
theorem Cc8 (h : St D S g k w) (hg : GOk k.l) (a b : S39) (hz0 : a.f0 = 0) :
  Calls Tryz.prog 80 #[.pointer (some ⟨g, 0, none⟩), .agg #[.int .i64 a.f0, .bool a.f1, .int .i64 a.f2], .agg #[.int .i64 b.f0, .bool b.f1, .int .i64 b.f2]] w fun e w' => e = .returned (.bool true) ∧ Below w.heap.size w w' := by
 have ba : Below w.heap.size w ((w.alloc (.cells #[.int .i64 a.f0, .bool a.f1, .int .i64 a.f2] 39)).alloc (.cells #[.int .i64 b.f0, .bool b.f1, .int .i64 b.f2] 39)).drew := ((bz_).alloc (by simp) _).drew
 have BA := zA ba
 have H1 := h.below ba
 have htab := H1.tab
 obtain ⟨v1, v2, v3, v4, ao, co, af, cf, h1⟩ := H1
 obtain ⟨A, c, rfl⟩ := h1.lst.slice
 have LA1 := zA (hg.la h1.lst)
 have TB := zA htab
 have HG := zA hg
 have c1 : Aa2 ((((w.alloc (.cells #[.int .i64 a.f0, .bool a.f1, .int .i64 a.f2] 39)).alloc (.cells #[.int .i64 b.f0, .bool b.f1, .int .i64 b.f2] 39)).drew).cell? ⟨g, 1, none⟩ = some (.slice A k.l.length c)) := ⟨h1.c1⟩
 have q0 := Aa5 (Aa6 w (.cells #[.int .i64 a.f0, .bool a.f1, .int .i64 a.f2] 39)) (.cells #[.int .i64 b.f0, .bool b.f1, .int .i64 b.f2] 39)
 have q1 := Aa6 (w.alloc (.cells #[.int .i64 a.f0, .bool a.f1, .int .i64 a.f2] 39)) (.cells #[.int .i64 b.f0, .bool b.f1, .int .i64 b.f2] 39)
 rw [World.size_alloc] at q1
 have Q := zA (And.intro q0 q1)
 have g0 : (a.f0 == 0) = true := by simp [hz0]
 clear hz0
 clear h hg ba htab h1 q0 q1
 go_enter Tryz.func80, Tryz.ntmps80
 go_wp2_with fail
 refine Ab3 (n := 18) (S := fun w' => w'.cell? ⟨g, 1, none⟩ = some (.slice A k.l.length c) ∧ w'.cell? ⟨w.heap.size, 0, none⟩ = some (.int .i64 a.f0) ∧ w'.cell? ⟨w.heap.size, 1, none⟩ = some (.bool a.f1) ∧ w'.cell? ⟨w.heap.size, 2, none⟩ = some (.int .i64 a.f2) ∧ w'.cell? ⟨w.heap.size + 1, 0, none⟩ = some (.int .i64 b.f0) ∧ w'.cell? ⟨w.heap.size + 1, 1, none⟩ = some (.bool b.f1) ∧ w'.cell? ⟨w.heap.size + 1, 2, none⟩ = some (.int .i64 b.f2)) (ds := []) (bm_ 18 0) (by kernel_rfl) rfl rfl ⟨c1.out, (Aa0 (w := ((w.alloc _).alloc _).drew) Q.out.1 0).trans rfl, (Aa0 (w := ((w.alloc _).alloc _).drew) Q.out.1 1).trans rfl, (Aa0 (w := ((w.alloc _).alloc _).drew) Q.out.1 2).trans rfl, (Aa0 (w := ((w.alloc _).alloc _).drew) Q.out.2 0).trans rfl, (Aa0 (w := ((w.alloc _).alloc _).drew) Q.out.2 1).trans rfl, (Aa0 (w := ((w.alloc _).alloc _).drew) Q.out.2 2).trans rfl⟩ (fun hHeld => ?_)
 refine pz_ 0 7 18 1 ?_
 refine tz_ 1 8 18 3 hHeld ?_
 refine pz_ 2 9 18 7 ?_
 refine pz_ 3 10 18 15 ?_
 refine uz_ 4 11 18 31 ?_
 refine uz_ 5 12 18 63 ?_
 refine uz_ 6 13 18 127 ?_
 refine pz_ 7 14 18 255 ?_
 refine pz_ 8 15 18 511 ?_
 refine uz_ 9 16 18 1023 ?_
 refine uz_ 10 17 18 2047 ?_
 refine uz_ 11 18 18 4095 ?_
 refine uz_ 12 19 18 8191 ?_
 refine uz_ 13 20 18 16383 ?_
 refine uz_ 14 21 18 32767 ?_
 refine uz_ 15 22 18 65535 ?_
 refine pz_ 16 23 18 131071 ?_
 refine pz_ 17 6 18 262143 ?_
 refine dz_ ?_

 go_wp2_with fail
 go_ret
 exact ⟨rfl, BA.out⟩
set_option maxHeartbeats 2000000 in
theorem Cc7 (h : St D S g k w) (hg : GOk k.l) (a b : S39) (hz0 : ¬ a.f0 = 0) (hz1 : b.f0 = 0) :
  Calls Tryz.prog 80 #[.pointer (some ⟨g, 0, none⟩), .agg #[.int .i64 a.f0, .bool a.f1, .int .i64 a.f2], .agg #[.int .i64 b.f0, .bool b.f1, .int .i64 b.f2]] w fun e w' => e = .returned (.bool true) ∧ Below w.heap.size w w' := by
 have ba : Below w.heap.size w ((w.alloc (.cells #[.int .i64 a.f0, .bool a.f1, .int .i64 a.f2] 39)).alloc (.cells #[.int .i64 b.f0, .bool b.f1, .int .i64 b.f2] 39)).drew := ((bz_).alloc (by simp) _).drew
 have BA := zA ba
 have H1 := h.below ba
 have htab := H1.tab
 obtain ⟨v1, v2, v3, v4, ao, co, af, cf, h1⟩ := H1
 obtain ⟨A, c, rfl⟩ := h1.lst.slice
 have LA1 := zA (hg.la h1.lst)
 have TB := zA htab
 have HG := zA hg
 have c1 : Aa2 ((((w.alloc (.cells #[.int .i64 a.f0, .bool a.f1, .int .i64 a.f2] 39)).alloc (.cells #[.int .i64 b.f0, .bool b.f1, .int .i64 b.f2] 39)).drew).cell? ⟨g, 1, none⟩ = some (.slice A k.l.length c)) := ⟨h1.c1⟩
 have q0 := Aa5 (Aa6 w (.cells #[.int .i64 a.f0, .bool a.f1, .int .i64 a.f2] 39)) (.cells #[.int .i64 b.f0, .bool b.f1, .int .i64 b.f2] 39)
 have q1 := Aa6 (w.alloc (.cells #[.int .i64 a.f0, .bool a.f1, .int .i64 a.f2] 39)) (.cells #[.int .i64 b.f0, .bool b.f1, .int .i64 b.f2] 39)
 rw [World.size_alloc] at q1
 have Q := zA (And.intro q0 q1)
 have g0 : (a.f0 == 0) = false := by simp [hz0]
 have g1 : (b.f0 == 0) = true := by simp [hz1]
 clear hz0 hz1
 clear h hg ba htab h1 q0 q1
 go_enter Tryz.func80, Tryz.ntmps80
 go_wp2_with fail
 refine Ab3 (n := 18) (S := fun w' => w'.cell? ⟨g, 1, none⟩ = some (.slice A k.l.length c) ∧ w'.cell? ⟨w.heap.size, 0, none⟩ = some (.int .i64 a.f0) ∧ w'.cell? ⟨w.heap.size, 1, none⟩ = some (.bool a.f1) ∧ w'.cell? ⟨w.heap.size, 2, none⟩ = some (.int .i64 a.f2) ∧ w'.cell? ⟨w.heap.size + 1, 0, none⟩ = some (.int .i64 b.f0) ∧ w'.cell? ⟨w.heap.size + 1, 1, none⟩ = some (.bool b.f1) ∧ w'.cell? ⟨w.heap.size + 1, 2, none⟩ = some (.int .i64 b.f2)) (ds := []) (bm_ 18 0) (by kernel_rfl) rfl rfl ⟨c1.out, (Aa0 (w := ((w.alloc _).alloc _).drew) Q.out.1 0).trans rfl, (Aa0 (w := ((w.alloc _).alloc _).drew) Q.out.1 1).trans rfl, (Aa0 (w := ((w.alloc _).alloc _).drew) Q.out.1 2).trans rfl, (Aa0 (w := ((w.alloc _).alloc _).drew) Q.out.2 0).trans rfl, (Aa0 (w := ((w.alloc _).alloc _).drew) Q.out.2 1).trans rfl, (Aa0 (w := ((w.alloc _).alloc _).drew) Q.out.2 2).trans rfl⟩ (fun hHeld => ?_)
 refine pz_ 0 7 18 1 ?_
 refine tz_ 1 8 18 3 hHeld ?_
 refine pz_ 2 9 18 7 ?_
 refine pz_ 3 10 18 15 ?_
 refine pz_ 4 11 18 31 ?_
 refine tz_ 5 12 18 63 hHeld ?_
 refine pz_ 6 13 18 127 ?_
 refine pz_ 7 14 18 255 ?_
 refine pz_ 8 15 18 511 ?_
 refine uz_ 9 16 18 1023 ?_
 refine uz_ 10 17 18 2047 ?_
 refine uz_ 11 18 18 4095 ?_
 refine uz_ 12 19 18 8191 ?_
 refine uz_ 13 20 18 16383 ?_
 refine uz_ 14 21 18 32767 ?_
 refine uz_ 15 22 18 65535 ?_
 refine pz_ 16 23 18 131071 ?_
 refine pz_ 17 6 18 262143 ?_
 refine dz_ ?_

 go_wp2_with fail
 go_ret
 exact ⟨rfl, BA.out⟩
set_option maxHeartbeats 2000000 in
theorem Cc6 (h : St D S g k w) (hg : GOk k.l) (a b : S39) (hz0 : ¬ a.f0 = 0) (hz1 : ¬ b.f0 = 0) :
  Calls Tryz.prog 80 #[.pointer (some ⟨g, 0, none⟩), .agg #[.int .i64 a.f0, .bool a.f1, .int .i64 a.f2], .agg #[.int .i64 b.f0, .bool b.f1, .int .i64 b.f2]] w fun e w' => e = .returned (.bool (valM k.l a b)) ∧ Below w.heap.size w w' := by
 have ba : Below w.heap.size w ((w.alloc (.cells #[.int .i64 a.f0, .bool a.f1, .int .i64 a.f2] 39)).alloc (.cells #[.int .i64 b.f0, .bool b.f1, .int .i64 b.f2] 39)).drew := ((bz_).alloc (by simp) _).drew
 have BA := zA ba
 have H1 := h.below ba
 have htab := H1.tab
 obtain ⟨v1, v2, v3, v4, ao, co, af, cf, h1⟩ := H1
 obtain ⟨A, c, rfl⟩ := h1.lst.slice
 have LA1 := zA (hg.la h1.lst)
 have TB := zA htab
 have HG := zA hg
 have c1 : Aa2 ((((w.alloc (.cells #[.int .i64 a.f0, .bool a.f1, .int .i64 a.f2] 39)).alloc (.cells #[.int .i64 b.f0, .bool b.f1, .int .i64 b.f2] 39)).drew).cell? ⟨g, 1, none⟩ = some (.slice A k.l.length c)) := ⟨h1.c1⟩
 have q0 := Aa5 (Aa6 w (.cells #[.int .i64 a.f0, .bool a.f1, .int .i64 a.f2] 39)) (.cells #[.int .i64 b.f0, .bool b.f1, .int .i64 b.f2] 39)
 have q1 := Aa6 (w.alloc (.cells #[.int .i64 a.f0, .bool a.f1, .int .i64 a.f2] 39)) (.cells #[.int .i64 b.f0, .bool b.f1, .int .i64 b.f2] 39)
 rw [World.size_alloc] at q1
 have Q := zA (And.intro q0 q1)
 have g0 : (a.f0 == 0) = false := by simp [hz0]
 have g1 : (b.f0 == 0) = false := by simp [hz1]
 clear hz0 hz1
 clear h hg ba htab h1 q0 q1
 go_enter Tryz.func80, Tryz.ntmps80
 go_wp2_with fail
 refine Ab3 (n := 18) (S := fun w' => w'.cell? ⟨g, 1, none⟩ = some (.slice A k.l.length c) ∧ w'.cell? ⟨w.heap.size, 0, none⟩ = some (.int .i64 a.f0) ∧ w'.cell? ⟨w.heap.size, 1, none⟩ = some (.bool a.f1) ∧ w'.cell? ⟨w.heap.size, 2, none⟩ = some (.int .i64 a.f2) ∧ w'.cell? ⟨w.heap.size + 1, 0, none⟩ = some (.int .i64 b.f0) ∧ w'.cell? ⟨w.heap.size + 1, 1, none⟩ = some (.bool b.f1) ∧ w'.cell? ⟨w.heap.size + 1, 2, none⟩ = some (.int .i64 b.f2)) (ds := [15]) (bm_ 18 0) (by kernel_rfl) rfl rfl ⟨c1.out, (Aa0 (w := ((w.alloc _).alloc _).drew) Q.out.1 0).trans rfl, (Aa0 (w := ((w.alloc _).alloc _).drew) Q.out.1 1).trans rfl, (Aa0 (w := ((w.alloc _).alloc _).drew) Q.out.1 2).trans rfl, (Aa0 (w := ((w.alloc _).alloc _).drew) Q.out.2 0).trans rfl, (Aa0 (w := ((w.alloc _).alloc _).drew) Q.out.2 1).trans rfl, (Aa0 (w := ((w.alloc _).alloc _).drew) Q.out.2 2).trans rfl⟩ (fun hHeld => ?_)
 refine pz_ 0 7 18 1 ?_
 refine tz_ 1 8 18 3 hHeld ?_
 refine pz_ 2 9 18 7 ?_
 refine pz_ 3 10 18 15 ?_
 refine pz_ 4 11 18 31 ?_
 refine tz_ 5 12 18 63 hHeld ?_
 refine pz_ 6 13 18 127 ?_
 refine pz_ 7 14 18 255 ?_
 refine pz_ 8 15 18 511 ?_
 refine pz_ 9 16 18 1023 ?_
 refine pz_ 10 17 18 2047 ?_
 refine pz_ 11 18 18 4095 ?_
 refine tz_ 12 19 18 8191 hHeld ?_
 refine tz_ 13 20 18 16383 hHeld ?_
 refine tz_ 14 21 18 32767 hHeld ?_
 refine lz_ 15 22 18 65535 fun K hK => ?_
 refine gz_ Tryz.func119 #[.slice A k.l.length c, .agg #[.int .i64 a.f0, .bool a.f1, .int .i64 a.f2], .agg #[.int .i64 b.f0, .bool b.f1, .int .i64 b.f2]] ?_
 with_reducible refine (Bn3 HG.out LA1.out TB.out a b).mono ?_
 rintro e w3 ⟨rfl, hb3⟩
 have B3 := zA (BA.out.trans (hb3.mono BA.out.size))
 clear hb3
 refine ⟨_, rfl, ?_⟩
 refine hK.out _ _ ?_
 clear hK K
 refine nz_ ?_
 refine pz_ 16 23 18 131071 ?_
 refine pz_ 17 6 18 262143 ?_
 refine dz_ ?_

 go_wp2_with fail
 go_ret
 exact ⟨rfl, B3.out⟩
theorem At7 (h : St D S g k w) (hg : GOk k.l) (a b : S39) :
  Calls Tryz.prog 80 #[.pointer (some ⟨g, 0, none⟩), .agg #[.int .i64 a.f0, .bool a.f1, .int .i64 a.f2], .agg #[.int .i64 b.f0, .bool b.f1, .int .i64 b.f2]] w fun e w' => e = .returned (.bool (matM k.l a b)) ∧ Below w.heap.size w w' := by
 unfold matM
 by_cases h0 : a.f0 = 0
 ·simpa [h0] using Cc8 h hg a b h0
 ·by_cases h1 : b.f0 = 0
  ·simpa [h0, h1] using Cc7 h hg a b h0 h1
  ·have := Cc6 h hg a b h0 h1
   rw [decide_eq_false h0, decide_eq_false h1, Bool.false_or, Bool.false_or]
   exact this
end
section
variable {D S : Nat → Prop} {g : Nat} {k : Chk} {w : World}
set_option maxHeartbeats 4000000 in
theorem Bh2 {v1 v2 v3 v4 : Value} {ao : Option Addr} {co : Nat} {af : Option Addr} {cf : Nat} (h : StV D S g k w v1 v2 v3 v4 ao co af cf) (hg : GOk k.l) {f : Fr} (hf : k.frames[k.frames.length - 1]? = some f) (hh : f.height ≤ k.ops.length) (hm : k.ops.length ≤ 4294967296) (hn : k.frames.length ≤ 4294967296) (v x : S39) (o' : List S39) (hp : popM f.height f.dead k.ops = (130, x, o')) :
  Calls Tryz.prog 39 #[.pointer (some ⟨g, 0, none⟩), .agg #[.int .i64 v.f0, .bool v.f1, .int .i64 v.f2]] w fun e w' => e = .returned (.tuple #[.agg #[.int .i64 x.f0, .bool x.f1, .int .i64 x.f2], .int .i64 130]) ∧ KG D S g v1 v2 v3 v4 af cf (fun _ _ => True) { k with ops := o' } w w' := by
 obtain ⟨W, hW⟩ : ∃ W, W = ((w.alloc (.cells #[.int .i64 v.f0, .bool v.f1, .int .i64 v.f2] 39)).alloc (.cells #[.int .i64 0, .bool false, .int .i64 0] 39)) := ⟨_, rfl⟩
 have hbw : Below w.heap.size w W := by rw [hW]; exact (bz_).alloc (by simp) _
 have hsz : W.heap.size = w.heap.size + 1 + 1 := by rw [hW, World.size_alloc, World.size_alloc]
 have q0 : W.heap[w.heap.size]? = some (.cells #[.int .i64 v.f0, .bool v.f1, .int .i64 v.f2] 39 (0, 0)) := by rw [hW]; exact Aa5 (Aa6 w (.cells #[.int .i64 v.f0, .bool v.f1, .int .i64 v.f2] 39)) _
 have q1 : W.heap[w.heap.size + 1]? = some (.cells #[.int .i64 0, .bool false, .int .i64 0] 39 (0, 0)) := by
  rw [hW]
  have h_ := Aa6 (w.alloc (.cells #[.int .i64 v.f0, .bool v.f1, .int .i64 v.f2] 39)) (.cells #[.int .i64 0, .bool false, .int .i64 0] 39)
  rw [World.size_alloc] at h_
  exact h_
 have h1 := h.more (p := w.heap.size + 1) hbw (Nat.le_succ _) (by omega)
 have GL : Aa2 (g < w.heap.size) := ⟨h.lt g (.inl h.own)⟩
 have SL : Aa2 (∀ y, S y → y < w.heap.size) := ⟨fun y hy => h.lt y (.inl hy)⟩
 have H1 := zA h1
 have HG := zA hg
 have K0 := Ag4 g W h1.c0
 have K1 := Ae5 g 5 ao _ co W h1.c5
 have K2 := Bv7 h1 hf hh hm hn hp
 have B0 := zA hbw
 have Q0 := zA (And.intro q0 q1)
 have HM := zA hm
 obtain ⟨n, hn2⟩ : ∃ n, n = k.ops.length := ⟨_, rfl⟩
 have HN2 := zA hn2
 rw [← hn2] at K1
 clear h h1 hg hf hh hm hn hp hbw q0 q1 hn2 hsz
 go_enter Tryz.func39, Tryz.ntmps39
 go_wp2_with fail
 rw [← hW]
 clear hW
 refine K0.mono ?_
 rintro e W ⟨rfl, rfl⟩
 clear K0
 go_wp2_with fail
 refine K1.mono ?_
 rintro e W ⟨rfl, rfl⟩
 clear K1
 go_wp2_with fail
 refine K2.mono ?_
 rintro e w2 ⟨rfl, S1, ao1, co1, hs, hgr, hst, hch, hC⟩
 have q0 := hch.blk Q0.out.1 (by have := GL.out; omega)
 have q1 := hch.blk Q0.out.2 (by have := GL.out; omega)
 have ST := zA hst
 have CH := zA hch
 have CC := zA hC
 have SS := zA (And.intro hs hgr)
 have N2 : Aa2 (w.heap.size + 1 < w2.heap.size) := ⟨Ac0 q1⟩
 clear hs hgr hst hch hC K2
 have b0 := bc_ q0 0
 have b1 := bc_ q0 1
 have b2 := bc_ q0 2
 have p0 := bc_ q1 0
 have p1 := bc_ q1 1
 have p2 := bc_ q1 2
 have f0 := Aa1 q1 0
 have f1 := Aa1 q1 1
 have f2 := Aa1 q1 2
 have Q2 := zA (And.intro q0 q1)
 have l2 := N2.out
 have l1 : w.heap.size < w2.heap.size := by omega
 clear q0 q1
 go_wp2_with fail
 clear l1 l2
 refine bodyPost_ret (v := .tuple #[.agg #[.int .i64 x.f0, .bool x.f1, .int .i64 x.f2], .int .i64 130]) ?_ rfl ?_
 ·exact Af0 (p := 4) (u := 5) rfl _ _ (w.heap.size + 1) 39 #[.int .i64 x.f0, .bool x.f1, .int .i64 x.f2] (0, 0) _ rfl (Aa5 (Ah9 Q2.out.2) _) Tryz.underlying39 rfl (by kernel_rfl)
 exact ⟨rfl, KG.cell B0.out (Nat.le_succ _) ST.out SS.out.1 SS.out.2 CH.out ((Ah8 _ _ _ _ _).trans (Bf6 (fun _ => False) _ _) (fun _ e => .inl e) (fun _ e => e.elim)) (fun _ e => e) trivial⟩
set_option maxHeartbeats 4000000 in
theorem Ay6 {v1 v2 v3 v4 : Value} {ao : Option Addr} {co : Nat} {af : Option Addr} {cf : Nat} (h : StV D S g k w v1 v2 v3 v4 ao co af cf) (hg : GOk k.l) {f : Fr} (hf : k.frames[k.frames.length - 1]? = some f) (hh : f.height ≤ k.ops.length) (hm : k.ops.length ≤ 4294967296) (hn : k.frames.length ≤ 4294967296) (v x : S39) (o' : List S39) (hp : popM f.height f.dead k.ops = (0, x, o')) (hmt : matM k.l x v = true) :
  Calls Tryz.prog 39 #[.pointer (some ⟨g, 0, none⟩), .agg #[.int .i64 v.f0, .bool v.f1, .int .i64 v.f2]] w fun e w' => e = .returned (.tuple #[.agg #[.int .i64 x.f0, .bool x.f1, .int .i64 x.f2], .int .i64 0]) ∧ KG D S g v1 v2 v3 v4 af cf (fun _ _ => True) { k with ops := o' } w w' := by
 obtain ⟨W, hW⟩ : ∃ W, W = ((w.alloc (.cells #[.int .i64 v.f0, .bool v.f1, .int .i64 v.f2] 39)).alloc (.cells #[.int .i64 0, .bool false, .int .i64 0] 39)) := ⟨_, rfl⟩
 have hbw : Below w.heap.size w W := by rw [hW]; exact (bz_).alloc (by simp) _
 have hsz : W.heap.size = w.heap.size + 1 + 1 := by rw [hW, World.size_alloc, World.size_alloc]
 have q0 : W.heap[w.heap.size]? = some (.cells #[.int .i64 v.f0, .bool v.f1, .int .i64 v.f2] 39 (0, 0)) := by rw [hW]; exact Aa5 (Aa6 w (.cells #[.int .i64 v.f0, .bool v.f1, .int .i64 v.f2] 39)) _
 have q1 : W.heap[w.heap.size + 1]? = some (.cells #[.int .i64 0, .bool false, .int .i64 0] 39 (0, 0)) := by
  rw [hW]
  have h_ := Aa6 (w.alloc (.cells #[.int .i64 v.f0, .bool v.f1, .int .i64 v.f2] 39)) (.cells #[.int .i64 0, .bool false, .int .i64 0] 39)
  rw [World.size_alloc] at h_
  exact h_
 have h1 := h.more (p := w.heap.size + 1) hbw (Nat.le_succ _) (by omega)
 have GL : Aa2 (g < w.heap.size) := ⟨h.lt g (.inl h.own)⟩
 have SL : Aa2 (∀ y, S y → y < w.heap.size) := ⟨fun y hy => h.lt y (.inl hy)⟩
 have H1 := zA h1
 have HG := zA hg
 have K0 := Ag4 g W h1.c0
 have K1 := Ae5 g 5 ao _ co W h1.c5
 have K2 := Bv7 h1 hf hh hm hn hp
 have HMT := zA hmt
 clear hmt
 have B0 := zA hbw
 have Q0 := zA (And.intro q0 q1)
 have HM := zA hm
 obtain ⟨n, hn2⟩ : ∃ n, n = k.ops.length := ⟨_, rfl⟩
 have HN2 := zA hn2
 rw [← hn2] at K1
 clear h h1 hg hf hh hm hn hp hbw q0 q1 hn2 hsz
 go_enter Tryz.func39, Tryz.ntmps39
 go_wp2_with fail
 rw [← hW]
 clear hW
 refine K0.mono ?_
 rintro e W ⟨rfl, rfl⟩
 clear K0
 go_wp2_with fail
 refine K1.mono ?_
 rintro e W ⟨rfl, rfl⟩
 clear K1
 go_wp2_with fail
 refine K2.mono ?_
 rintro e w2 ⟨rfl, S1, ao1, co1, hs, hgr, hst, hch, hC⟩
 have q0 := hch.blk Q0.out.1 (by have := GL.out; omega)
 have q1 := hch.blk Q0.out.2 (by have := GL.out; omega)
 have ST := zA hst
 have CH := zA hch
 have CC := zA hC
 have SS := zA (And.intro hs hgr)
 have N2 : Aa2 (w.heap.size + 1 < w2.heap.size) := ⟨Ac0 q1⟩
 clear hs hgr hst hch hC K2
 have b0 := bc_ q0 0
 have b1 := bc_ q0 1
 have b2 := bc_ q0 2
 have p0 := bc_ q1 0
 have p1 := bc_ q1 1
 have p2 := bc_ q1 2
 have f0 := Aa1 q1 0
 have f1 := Aa1 q1 1
 have f2 := Aa1 q1 2
 have Q2 := zA (And.intro q0 q1)
 have l2 := N2.out
 have l1 : w.heap.size < w2.heap.size := by omega
 clear q0 q1
 go_wp2_with fail
 clear l1 l2
 obtain ⟨w3, hw3⟩ : ∃ w3, w3 = w2.alloc (.cells #[.int .i64 x.f0, .bool x.f1, .int .i64 x.f2] 39) := ⟨_, rfl⟩
 rw [← hw3]
 have b3 : Below w2.heap.size w2 w3 := by rw [hw3]; exact bz_
 have r3 : w3.heap[w2.heap.size]? = some (.cells #[.int .i64 x.f0, .bool x.f1, .int .i64 x.f2] 39 (0, 0)) := by rw [hw3]; exact Aa6 w2 _
 have K3 := At7 ⟨_, _, _, _, _, _, _, _, ST.out.below b3⟩ HG.out x v
 rw [HMT.out] at K3
 refine K3.mono ?_
 rintro e w4 ⟨rfl, hb4⟩
 have r4 := Aa3 r3 hb4
 have q1 := Aa3 (Aa3 Q2.out.2 b3) hb4
 have R4 := zA (And.intro r4 q1)
 have B4 := zA (b3.trans (hb4.mono b3.size))
 clear b0 b1 b2 p0 p1 p2 f0 f1 f2 K3 hb4 hw3 r3 b3
 have x0 := bc_ r4 0
 have x1 := bc_ r4 1
 have x2 := bc_ r4 2
 have p0 := bc_ q1 0
 have p1 := bc_ q1 1
 have p2 := bc_ q1 2
 have f0 := Aa1 q1 0
 have f1 := Aa1 q1 1
 have f2 := Aa1 q1 2
 clear r4 q1
 go_wp2_with fail
 refine bodyPost_ret (v := .tuple #[.agg #[.int .i64 x.f0, .bool x.f1, .int .i64 x.f2], .int .i64 0]) ?_ rfl ?_
 ·exact Af0 (p := 4) (u := 5) rfl _ _ (w.heap.size + 1) 39 #[.int .i64 x.f0, .bool x.f1, .int .i64 x.f2] (0, 0) _ rfl (Ah9 R4.out.2) Tryz.underlying39 rfl (by kernel_rfl)
 exact ⟨rfl, KG.cell B0.out (Nat.le_succ _) (ST.out.below B4.out) SS.out.1 SS.out.2 (CH.out.trans (Chg.of_below B4.out (fun _ => False)) (fun _ e => .inl e) (fun _ e => e.elim)) (Ah8 _ _ _ _ _) (fun _ e => e) trivial⟩
set_option maxHeartbeats 4000000 in
theorem Bq3 {v1 v2 v3 v4 : Value} {ao : Option Addr} {co : Nat} {af : Option Addr} {cf : Nat} (h : StV D S g k w v1 v2 v3 v4 ao co af cf) (hg : GOk k.l) {f : Fr} (hf : k.frames[k.frames.length - 1]? = some f) (hh : f.height ≤ k.ops.length) (hm : k.ops.length ≤ 4294967296) (hn : k.frames.length ≤ 4294967296) (v x : S39) (o' : List S39) (hp : popM f.height f.dead k.ops = (0, x, o')) (hmt : matM k.l x v = false) (ho : o' ++ [x] = k.ops) (hfl : f.height < k.ops.length) :
  Calls Tryz.prog 39 #[.pointer (some ⟨g, 0, none⟩), .agg #[.int .i64 v.f0, .bool v.f1, .int .i64 v.f2]] w fun e w' => e = .returned (.tuple #[.agg #[.int .i64 0, .bool false, .int .i64 0], .int .i64 131]) ∧ KG D S g v1 v2 v3 v4 af cf (fun _ _ => True) { k with ops := k.ops } w w' := by
 obtain ⟨W, hW⟩ : ∃ W, W = ((w.alloc (.cells #[.int .i64 v.f0, .bool v.f1, .int .i64 v.f2] 39)).alloc (.cells #[.int .i64 0, .bool false, .int .i64 0] 39)) := ⟨_, rfl⟩
 have hbw : Below w.heap.size w W := by rw [hW]; exact (bz_).alloc (by simp) _
 have hsz : W.heap.size = w.heap.size + 1 + 1 := by rw [hW, World.size_alloc, World.size_alloc]
 have q0 : W.heap[w.heap.size]? = some (.cells #[.int .i64 v.f0, .bool v.f1, .int .i64 v.f2] 39 (0, 0)) := by rw [hW]; exact Aa5 (Aa6 w (.cells #[.int .i64 v.f0, .bool v.f1, .int .i64 v.f2] 39)) _
 have q1 : W.heap[w.heap.size + 1]? = some (.cells #[.int .i64 0, .bool false, .int .i64 0] 39 (0, 0)) := by
  rw [hW]
  have h_ := Aa6 (w.alloc (.cells #[.int .i64 v.f0, .bool v.f1, .int .i64 v.f2] 39)) (.cells #[.int .i64 0, .bool false, .int .i64 0] 39)
  rw [World.size_alloc] at h_
  exact h_
 have h1 := h.more (p := w.heap.size + 1) hbw (Nat.le_succ _) (by omega)
 have GL : Aa2 (g < w.heap.size) := ⟨h.lt g (.inl h.own)⟩
 have SL : Aa2 (∀ y, S y → y < w.heap.size) := ⟨fun y hy => h.lt y (.inl hy)⟩
 have H1 := zA h1
 have HG := zA hg
 have K0 := Ag4 g W h1.c0
 have K1 := Ae5 g 5 ao _ co W h1.c5
 have K2 := Bv7 h1 hf hh hm hn hp
 have HMT := zA hmt
 have HO := zA ho
 have HFL := zA hfl
 clear hmt ho hfl
 have B0 := zA hbw
 have Q0 := zA (And.intro q0 q1)
 have HM := zA hm
 obtain ⟨n, hn2⟩ : ∃ n, n = k.ops.length := ⟨_, rfl⟩
 have HN2 := zA hn2
 rw [← hn2] at K1
 clear h h1 hg hf hh hm hn hp hbw q0 q1 hn2 hsz
 go_enter Tryz.func39, Tryz.ntmps39
 go_wp2_with fail
 rw [← hW]
 clear hW
 refine K0.mono ?_
 rintro e W ⟨rfl, rfl⟩
 clear K0
 go_wp2_with fail
 refine K1.mono ?_
 rintro e W ⟨rfl, rfl⟩
 clear K1
 go_wp2_with fail
 refine K2.mono ?_
 rintro e w2 ⟨rfl, S1, ao1, co1, hs, hgr, hst, hch, hC⟩
 have q0 := hch.blk Q0.out.1 (by have := GL.out; omega)
 have q1 := hch.blk Q0.out.2 (by have := GL.out; omega)
 have ST := zA hst
 have CH := zA hch
 have CC := zA hC
 have SS := zA (And.intro hs hgr)
 have N2 : Aa2 (w.heap.size + 1 < w2.heap.size) := ⟨Ac0 q1⟩
 clear hs hgr hst hch hC K2
 have b0 := bc_ q0 0
 have b1 := bc_ q0 1
 have b2 := bc_ q0 2
 have p0 := bc_ q1 0
 have p1 := bc_ q1 1
 have p2 := bc_ q1 2
 have f0 := Aa1 q1 0
 have f1 := Aa1 q1 1
 have f2 := Aa1 q1 2
 have Q2 := zA (And.intro q0 q1)
 have l2 : w.heap.size + 1 < w2.heap.size := N2.out
 have l1 : w.heap.size < w2.heap.size := by omega
 clear q0 q1
 go_wp2_with fail
 clear l1 l2
 obtain ⟨w3, hw3⟩ : ∃ w3, w3 = w2.alloc (.cells #[.int .i64 x.f0, .bool x.f1, .int .i64 x.f2] 39) := ⟨_, rfl⟩
 rw [← hw3]
 have b3 : Below w2.heap.size w2 w3 := by rw [hw3]; exact bz_
 have r3 : w3.heap[w2.heap.size]? = some (.cells #[.int .i64 x.f0, .bool x.f1, .int .i64 x.f2] 39 (0, 0)) := by rw [hw3]; exact Aa6 w2 _
 have K3 := At7 ⟨_, _, _, _, _, _, _, _, ST.out.below b3⟩ HG.out x v
 rw [HMT.out] at K3
 refine K3.mono ?_
 rintro e w4 ⟨rfl, hb4⟩
 have r4 := Aa3 r3 hb4
 have q1 := Aa3 (Aa3 Q2.out.2 b3) hb4
 have R4 := zA (And.intro r4 q1)
 have B4 := zA (b3.trans (hb4.mono b3.size))
 clear b0 b1 b2 p0 p1 p2 f0 f1 f2 K3 hb4 hw3 r3 b3
 have x0 := bc_ r4 0
 have x1 := bc_ r4 1
 have x2 := bc_ r4 2
 have p0 := bc_ q1 0
 have p1 := bc_ q1 1
 have p2 := bc_ q1 2
 have f0 := Aa1 q1 0
 have f1 := Aa1 q1 1
 have f2 := Aa1 q1 2
 clear r4 q1
 go_wp2_with fail
 have S4 := zA (ST.out.below B4.out)
 have K4 := Ae5 g 5 ao1 _ co1 w4 S4.out.c5
 have hlt : decide ((o'.length : Int) < (n : Int)) = true := by have h1 := congrArg List.length HO.out; have := HN2.out; simp at h1 ⊢; omega
 have hlt2 : decide (o'.length < n) = true := by have h1 := congrArg List.length HO.out; have := HN2.out; simp at h1 ⊢; omega
 dsimp only at K4
 refine K4.mono ?_
 rintro e w4 ⟨rfl, rfl⟩
 clear K4
 go_wp2_with fail
 refine Ab3 (n := 5) (S := fun w' => w'.cell? ⟨w2.heap.size, 0, none⟩ = some (.int .i64 x.f0) ∧ w'.cell? ⟨w2.heap.size, 1, none⟩ = some (.bool x.f1) ∧ w'.cell? ⟨w2.heap.size, 2, none⟩ = some (.int .i64 x.f2)) (ds := [4]) (bm_ 5 0) (by kernel_rfl) rfl rfl ⟨x0, x1, x2⟩ (fun hHeld => ?_)
 refine pz_ 0 36 5 1 ?_
 refine pz_ 1 37 5 3 ?_
 refine pz_ 2 38 5 7 ?_
 refine tz_ 3 39 5 15 hHeld ?_
 refine lz_ 4 40 5 31 fun K hK => ?_
 refine gz_ Tryz.func72 #[.pointer (some ⟨g, 5, none⟩), .agg #[.int .i64 x.f0, .bool x.f1, .int .i64 x.f2]] ?_
 with_reducible refine (Bi8 (S4.out.below (W' := w4.drew) (Below.refl _ _).drew) x (by have h1 := congrArg List.length HO.out; have := HM.out; simp at h1 ⊢; omega)).mono ?_
 rintro e w6 ⟨rfl, S2, ao2, co2, hs2, hg2, hst2, hch2⟩
 have ST6 := zA hst2
 have SS6 : Aa2 ((∀ y, S y → S2 y) ∧ ∀ y, S2 y → S y ∨ W.heap.size ≤ y) := ⟨⟨fun y e => hs2 y (SS.out.1 y e), fun y e => (hg2 y e).elim (SS.out.2 y) (fun l => .inr (Nat.le_trans CH.out.size (Nat.le_trans B4.out.size l)))⟩⟩
 have CH6 : Aa2 (Chg (fun y => y = g) W w6) := ⟨(CH.out.trans (Chg.of_below B4.out.drew (fun _ => False)) (fun _ e => .inl e) (fun _ e => e.elim)).trans hch2 (fun _ e => .inl e) (fun y e => e.elim .inl (fun e => absurd (CC.out HFL.out).symm e.2))⟩
 clear hs2 hg2 hst2 hch2
 refine ⟨_, rfl, ?_⟩
 refine hK.out _ _ ?_
 clear hK K
 refine nz_ ?_
 refine dz_ ?_

 have q6 := CH6.out.blk Q0.out.2 (by have := GL.out; omega)
 have R6 := zA q6
 clear x0 x1 x2 p0 p1 p2 f0 f1 f2
 have p0 := bc_ q6 0
 have p1 := bc_ q6 1
 have p2 := bc_ q6 2
 have f0 := Aa1 q6 0
 have f1 := Aa1 q6 1
 have f2 := Aa1 q6 2
 clear q6
 go_wp2_with fail
 have KF := ST6.out
 rw [HO.out] at KF
 refine bodyPost_ret (v := .tuple #[.agg #[.int .i64 0, .bool false, .int .i64 0], .int .i64 131]) ?_ rfl ?_
 ·exact Af0 (p := 4) (u := 5) rfl _ _ (w.heap.size + 1) 39 #[.int .i64 0, .bool false, .int .i64 0] (0, 0) _ rfl (Ah9 R6.out) Tryz.underlying39 rfl (by kernel_rfl)
 exact ⟨rfl, KG.cell B0.out (Nat.le_succ _) KF SS6.out.1 SS6.out.2 CH6.out (Ah8 _ _ _ _ _) (fun _ e => e) trivial⟩
theorem Bv8 {v1 v2 v3 v4 : Value} {ao : Option Addr} {co : Nat} {af : Option Addr} {cf : Nat} (h : StV D S g k w v1 v2 v3 v4 ao co af cf) (hg : GOk k.l) {f : Fr} (hf : k.frames[k.frames.length - 1]? = some f) (hh : f.height ≤ k.ops.length) (hm : k.ops.length ≤ 4294967296) (hn : k.frames.length ≤ 4294967296) (v : S39) {er : Int} {x : S39} {o' : List S39} (hp : Ap5 k.l f.height f.dead k.ops v = (er, x, o')) :
  Calls Tryz.prog 39 #[.pointer (some ⟨g, 0, none⟩), .agg #[.int .i64 v.f0, .bool v.f1, .int .i64 v.f2]] w fun e w' => e = .returned (.tuple #[.agg #[.int .i64 x.f0, .bool x.f1, .int .i64 x.f2], .int .i64 er]) ∧ KG D S g v1 v2 v3 v4 af cf (fun _ _ => True) { k with ops := o' } w w' := by
 unfold Ap5 at hp
 by_cases h1 : f.height < k.ops.length
 ·have hpm : popM f.height f.dead k.ops = (0, k.ops.getLastD v0, k.ops.dropLast) := by unfold popM; rw [if_pos h1]
  rw [hpm, if_neg (by simp)] at hp
  cases hmt : matM k.l (k.ops.getLastD v0) v with
  | true =>
   rw [if_pos hmt] at hp
   injection hp with e1 e2
   injection e2 with e2 e3
   subst e1 e2 e3
   exact Ay6 h hg hf hh hm hn v _ _ hpm hmt
  | false =>
   rw [if_neg (by rw [hmt]; simp)] at hp
   injection hp with e1 e2
   injection e2 with e2 e3
   subst e1 e2 e3
   obtain ⟨n, hon⟩ : ∃ n, k.ops.length = n + 1 := ⟨k.ops.length - 1, by omega⟩
   have ho : k.ops.dropLast ++ [k.ops.getLastD v0] = k.ops := by
    rw [Au6 k.ops n hon]
    have hx := Au5 k.ops n hon
    obtain ⟨x, hxe⟩ : ∃ x, x = k.ops.getLastD v0 := ⟨_, rfl⟩
    rw [← hxe] at hx ⊢
    have h2 : k.ops.take (n + 1) = k.ops := List.take_of_length_le (by omega)
    rw [List.take_add_one, hx] at h2
    simpa using h2
   exact Bq3 h hg hf hh hm hn v _ _ hpm hmt ho h1
 ·cases hd : f.dead with
  | true =>
   have hpm : popM f.height f.dead k.ops = (0, v0, k.ops) := by unfold popM; rw [if_neg h1, hd]; rfl
   have hmt : matM k.l v0 v = true := by simp [matM, v0]
   have hp2 := hpm
   rw [hp2, if_neg (by simp), if_pos hmt] at hp
   injection hp with e1 e2
   injection e2 with e2 e3
   subst e1 e2 e3
   exact Ay6 h hg hf hh hm hn v _ _ hpm hmt
  | false =>
   have hpm : popM f.height f.dead k.ops = (130, v0, k.ops) := by unfold popM; rw [if_neg h1, hd]; rfl
   have hp2 := hpm
   rw [hp2, if_pos (by simp)] at hp
   injection hp with e1 e2
   injection e2 with e2 e3
   subst e1 e2 e3
   exact Bh2 h hg hf hh hm hn v _ _ hpm
end
end Go.Proofs.YtohlmkcgempdlaaGreatDoor.Cn
