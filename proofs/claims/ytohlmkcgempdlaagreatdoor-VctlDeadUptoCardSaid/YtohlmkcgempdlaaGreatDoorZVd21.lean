/- Parts of the proof of vctlDead_holds (21 of 24): what it says and shows stands at its declarations. -/
import Derived.Test.YtohlmkcgempdlaaGreatDoorZVd20
import Derived.Lib.SliceRun
import Derived.Maps.OwnSet
namespace Go.Proofs.YtohlmkcgempdlaaGreatDoor.Cn
set_option linter.unusedSimpArgs false
set_option maxRecDepth 100000
set_option linter.unusedVariables false
open Go.RowKit Go.Maps Go.Proofs.YtohlmkcgempdlaaGreatDoorW.PrintWords Go.Proofs.YtohlmkcgempdlaaGreatDoorW.PrintLast Go.Proofs.YtohlmkcgempdlaaGreatDoorW.PrintMore Go.Proofs.YtohlmkcgempdlaaGreatDoor.QD
set_option maxHeartbeats 4000000 in
theorem clone_calls (S : Nat → Prop) {v : Value} (l : List S39) (w : World) (h : LK k39 S w v l) (hl : l.length ≤ 4294967296) : Calls Tryz.prog 76 #[v] w (ROut k39 39 l w) := by
 obtain ⟨A, c, rfl⟩ := h.slice
 cases A with
 | none =>
  obtain ⟨a1, a2, a3⟩ := h.reads.2.2
  have e : l = [] := by
   cases l with
   | nil => rfl
   | cons x l =>
    obtain ⟨ad, e1, _⟩ := a3 (by simp)
    cases e1
  subst e
  clear h hl a1 a2 a3
  have qT : ∀ (w : World) (a : Option Addr) (n c n' c' : Nat), (binOp .eql 27 (.slice a n c) (.slice none n' c')).run Tryz.prog w = .ok (.bool a.isNone) w := fun w a n c n' c' => Lib.run_eql_slice_nil w _ _ a n c n' c' Tryz.underlying27
  go_enter Tryz.func76, Tryz.ntmps76
  go_wp2_with fail
  go_ret
  exact ⟨_, rfl, Kd.R_nil _ _ _ _ _, Below.refl _ _⟩
 | some ad =>
  have ba : Below w.heap.size w (w.alloc (.cells #[] 39)) := bz_
  have L1 := Aside0.mk (h.below ba)
  have BA := Aside0.mk ba
  have HL := Aside0.mk hl
  have R1 : Aside0 (Kd.R k39 39 (w.alloc (.cells #[] 39)) w.heap.size (fun _ => True) (.slice (some ⟨w.heap.size, 0, none⟩) 0 0) []) := ⟨⟨fun _ _ => trivial, OwnRow.lit (ps := ([] : List S39)) w w.heap.size (inner := []) (Reps.none _ _) (Nat.le_refl _) (by simp)⟩⟩
  obtain ⟨n, hn⟩ : ∃ n, n = l.length := ⟨_, rfl⟩
  rw [← hn] at L1 ⊢
  have HN := Aside0.mk hn
  clear h hl ba hn
  have qT : ∀ (w : World) (a : Option Addr) (n c n' c' : Nat), (binOp .eql 27 (.slice a n c) (.slice none n' c')).run Tryz.prog w = .ok (.bool a.isNone) w := fun w a n c n' c' => Lib.run_eql_slice_nil w _ _ a n c n' c' Tryz.underlying27
  go_enter Tryz.func76, Tryz.ntmps76
  go_wp2_with (at_builtin; refine Kd.R_append_rows k39 (Rr := k39.K (w.alloc (.cells #[] 39))) (w0 := w) w.heap.size rfl (.tmp 5) (.tmp 6) 27 39 (.agg #[.int .i64 0, .bool false, .int .i64 0]) 24 rfl Tryz.underlying27 info39 rfl (by decide) (by decide) (.slice (some ⟨w.heap.size, 0, none⟩) 0 0) [] l (some ad) n c (fun _ => True) (fun _ => False) rfl rfl R1.out (by have h_ := L1.out.reads.2.2; rw [HN.out]; exact h_) (fun x cs hk => by rw [k39_open hk]; exact k39_mkM _ _ _ x) (fun _ hk => hk.elim) (fun _ _ => trivial) BA.out BA.out.size (by have := HN.out; have := HL.out; simp; omega) ?_; intro v4 w4 hr4 hb4 hg4 hat4; have R4 := Aside0.mk hr4; have B4 := Aside0.mk hb4; clear hr4 hb4 hg4 hat4)
  go_ret
  exact ⟨_, rfl, R4.out, B4.out⟩
section
variable {w1 w w' : World} {D S S' : Nat → Prop} {kb g : Nat} {X : CX} {I : IX} {k k' : Chk} {f : Fr}
noncomputable def swapM (k : Chk) (f : Fr) (l1 l2 : List S39) : Int × Chk := if (popsM k.l f.height f.dead l1 k.ops).1 = 0 then (0, { k with ops := (popsM k.l f.height f.dead l1 k.ops).2 ++ l2 }) else ((popsM k.l f.height f.dead l1 k.ops).1, k)
theorem vswap_calls (h : St D S g k w) (hF : Fit k f) {A1 A2 : Option Addr} {c1 c2 : Nat} {l1 l2 : List S39} (h1 : LK k39 (fun x => S x ∨ D x) w (.slice A1 l1.length c1) l1) (h2 : LK k39 (fun x => S x ∨ D x) w (.slice A2 l2.length c2) l2) (hl1 : l1.length ≤ 2147483648) (hl2 : l2.length ≤ 2147483648) :
  Calls Tryz.prog 129 #[.pointer (some ⟨g, 0, none⟩), .slice A1 l1.length c1, .slice A2 l2.length c2] w (SOut D S g (swapM k f l1 l2) w) := by
 obtain ⟨er, o', hp⟩ : ∃ er o', popsM k.l f.height f.dead l1 k.ops = (er, o') := ⟨_, _, rfl⟩
 have K := kSwap_calls h hF.g hF.lf hF.h (by have := hF.ops; omega) (by have := hF.frs; omega) h1 h2 hl1 hl2 hp
 unfold swapM
 rw [hp]
 by_cases he : er = 0
 ·subst he
  exact K
 ·dsimp only
  rw [if_neg he] at K ⊢
  exact K
set_option maxHeartbeats 4000000 in
theorem vwith_calls (h : St D S g k w) (hF : Fit k f) (hk : KI w1 D S kb g X I w) (x : S39) {A1 A2 : Option Addr} {c1 c2 : Nat} {l1 l2 : List S39} (h1 : LK k39 (fun x => S x ∨ D x) w (.slice A1 l1.length c1) l1) (h2 : LK k39 (fun x => S x ∨ D x) w (.slice A2 l2.length c2) l2) (hl1 : l1.length ≤ 1048576) (hl2 : l2.length ≤ 1048576) :
  Calls Tryz.prog 126 #[.pointer (some ⟨kb, 0, none⟩), .agg #[.int .i64 x.f0, .bool x.f1, .int .i64 x.f2], .slice A1 l1.length c1, .slice A2 l2.length c2] w (SOut D S g (swapM k f (l1 ++ [x]) l2) w) := by
 obtain ⟨w2, hw2⟩ : ∃ w2, World.drew (w.alloc (.cells #[.int .i64 x.f0, .bool x.f1, .int .i64 x.f2] 39)) = w2 := ⟨_, rfl⟩
 have b2 : Below w.heap.size w w2 := by rw [← hw2]; exact (bz_).drew
 have BX := Aside0.mk (show w2.heap[w.heap.size]? = some (.cells #[.int .i64 x.f0, .bool x.f1, .int .i64 x.f2] 39 (0, 0)) by rw [← hw2]; exact blk_new w _)
 have BL := Aside0.mk (blk_lt BX.out)
 have H2 := Aside0.mk (h.below b2)
 have K2 := Aside0.mk (hk.below b2)
 have L1 := Aside0.mk (h1.below b2)
 have L2 := Aside0.mk (h2.below b2)
 have HF := Aside0.mk hF
 have HL := Aside0.mk (And.intro hl1 hl2)
 have B2 := Aside0.mk b2
 obtain ⟨rr, hrr⟩ : ∃ rr, rr = swapM k f (l1 ++ [x]) l2 := ⟨_, rfl⟩
 rw [← hrr]
 have HR := Aside0.mk hrr
 have z9 : w2.cell? ⟨kb, 9, none⟩ = some (.pointer (some ⟨g, 0, none⟩)) := K2.out.pc
 have x0 : w2.cell? ⟨w.heap.size, 0, none⟩ = some (.int .i64 x.f0) := (blk_cell BX.out 0).trans rfl
 have x1 : w2.cell? ⟨w.heap.size, 1, none⟩ = some (.bool x.f1) := (blk_cell BX.out 1).trans rfl
 have x2 : w2.cell? ⟨w.heap.size, 2, none⟩ = some (.int .i64 x.f2) := (blk_cell BX.out 2).trans rfl
 obtain ⟨n1, hn1⟩ : ∃ n1, n1 = l1.length := ⟨_, rfl⟩
 obtain ⟨n2, hn2⟩ : ∃ n2, n2 = l2.length := ⟨_, rfl⟩
 have HN := Aside0.mk (And.intro hn1 hn2)
 rw [← hn1, ← hn2]
 clear h hF hk h1 h2 hl1 hl2 b2 hrr hn1 hn2
 go_enter Tryz.func126, Tryz.ntmps126
 go_wp2_with fail
 refine start_ (n := 12) (S := fun w' => w'.cell? ⟨kb, 9, none⟩ = some (.pointer (some ⟨g, 0, none⟩)) ∧ w'.cell? ⟨w.heap.size, 0, none⟩ = some (.int .i64 x.f0) ∧ w'.cell? ⟨w.heap.size, 1, none⟩ = some (.bool x.f1) ∧ w'.cell? ⟨w.heap.size, 2, none⟩ = some (.int .i64 x.f2)) (ds := [10]) (bm_ 12 0) (by kernel_rfl) rfl rfl ⟨(by rw [hw2]; exact z9), (by rw [hw2]; exact x0), (by rw [hw2]; exact x1), (by rw [hw2]; exact x2)⟩ (fun hHeld => ?_)
 rw [hw2] at hHeld ⊢
 clear hw2
 refine pz_ 0 9 12 1 ?_
 refine pz_ 1 10 12 3 ?_
 refine pz_ 2 11 12 7 ?_
 refine pz_ 4 13 12 23 ?_
 refine pz_ 9 18 12 535 ?_
 refine tz_ 3 12 12 543 hHeld ?_
 refine tz_ 6 15 12 607 hHeld ?_
 refine join_ (σ := Value × Nat) 3 (bm_ 12 767) (fun s_ => [(14, s_.1), (16, .slice (some ⟨s_.2, 0, none⟩) 1 1)]) (fun s_ w' => PF w2 l1 [.int .i64 x.f0, .bool x.f1, .int .i64 x.f2] s_ w') ?_ ?_
 rotate_left
 ·intro hCont
  refine two_ (i := 5) (j := 7) (Ni := some 14) (Nj := some 16) (bm_ 12 639) (bm_ 12 735) rfl rfl rfl rfl (by kernel_rfl) (by decide) (by decide) (fun K hK => ?_) (fun K hK => ?_)
  ·skip
   have KL := clone_calls (fun y => S y ∨ D y) l1 w2 L1.out (by have := HL.out.1; omega)
   rw [← HN.out.1] at KL
   refine gz_ Tryz.func76 #[.slice A1 n1 c1] ?_
   with_reducible refine (KL).mono ?_
   rintro e w6 ⟨v6, rfl, hr_, hb0_⟩
   have g_ : _ ∧ _ ∧ _ ∧ _ := ⟨hb0_.kp hHeld.1, hb0_.kp hHeld.2.1, hb0_.kp hHeld.2.2.1, hb0_.kp hHeld.2.2.2⟩
   refine ⟨_, rfl, ?_⟩
   refine hK.out _ _ ⟨g_.1, g_.2.1, g_.2.2.1, g_.2.2.2⟩ (fun hHeld => ?_)
   clear hK K
   refine nz_ ?_
   refine oz_ 7 16 12 767 fun K hK => ?_
   refine vz_ ?_
   have hb_ := (Below.refl _ _).alloc (w := w6) (Nat.le_refl _) (.cells #[.int .i64 x.f0, .bool x.f1, .int .i64 x.f2] 39)
   have g_ : _ ∧ _ ∧ _ ∧ _ := ⟨hb_.kp hHeld.1, hb_.kp hHeld.2.1, hb_.kp hHeld.2.2.1, hb_.kp hHeld.2.2.2⟩
   refine hK.out _ _ ⟨g_.1, g_.2.1, g_.2.2.1, g_.2.2.2⟩ (fun hHeld => ?_)
   clear hK K
   refine nz_ ?_
   exact norm_ (by simp only [putAll, Act.put, List.setIfInBounds_toArray, List.set_cons_zero, List.set_cons_succ]) (hCont (_, _) _ (PF.a hr_ hb0_))
  ·skip
   refine vz_ ?_
   have hb_ := (Below.refl _ _).alloc (w := w2) (Nat.le_refl _) (.cells #[.int .i64 x.f0, .bool x.f1, .int .i64 x.f2] 39)
   have g_ : _ ∧ _ ∧ _ ∧ _ := ⟨hb_.kp hHeld.1, hb_.kp hHeld.2.1, hb_.kp hHeld.2.2.1, hb_.kp hHeld.2.2.2⟩
   refine hK.out _ _ ⟨g_.1, g_.2.1, g_.2.2.1, g_.2.2.2⟩ (fun hHeld => ?_)
   clear hK K
   refine nz_ ?_
   refine oz_ 5 14 12 767 fun K hK => ?_
   have KL := clone_calls (fun y => S y ∨ D y) l1 (w2.alloc (.cells #[.int .i64 x.f0, .bool x.f1, .int .i64 x.f2] 39)) (L1.out.below (bz_)) (by have := HL.out.1; omega)
   rw [← HN.out.1] at KL
   refine gz_ Tryz.func76 #[.slice A1 n1 c1] ?_
   with_reducible refine (KL).mono ?_
   rintro e w6 ⟨v6, rfl, hr_, hb_⟩
   have g_ : _ ∧ _ ∧ _ ∧ _ := ⟨hb_.kp hHeld.1, hb_.kp hHeld.2.1, hb_.kp hHeld.2.2.1, hb_.kp hHeld.2.2.2⟩
   refine ⟨_, rfl, ?_⟩
   refine hK.out _ _ ⟨g_.1, g_.2.1, g_.2.2.1, g_.2.2.2⟩ (fun hHeld => ?_)
   clear hK K
   refine nz_ ?_
   exact norm_ (by simp only [putAll, Act.put, List.setIfInBounds_toArray, List.set_cons_zero, List.set_cons_succ]) (hCont (_, _) _ (PF.b hr_ hb_))
 rintro ⟨v6, by_⟩ w6 hpf
 have hb_ := hpf.2.2
 have hHeld : w6.cell? ⟨kb, 9, none⟩ = some (.pointer (some ⟨g, 0, none⟩)) ∧ _ ∧ _ ∧ _ := ⟨hb_.kp z9, hb_.kp x0, hb_.kp x1, hb_.kp x2⟩
 have PFo := Aside0.mk hpf
 obtain ⟨A6, c6, ev6⟩ := Kd.R_slice hpf.1
 dsimp only at ev6
 subst ev6
 clear hpf hb_
 refine norm_ (a' := ?_) ?_ ?_
 rotate_left
 ·simp only [putAll, Act.put, List.setIfInBounds_toArray, List.set_cons_zero, List.set_cons_succ]
  rfl
 refine oz_ 8 17 12 1023 fun K hK => ?_
 refine Kd.R_append_rows_step k39 (Rr := k39.K w6) (w0 := w2) w2.heap.size (by rfl) (.tmp 14) (.tmp 16) 27 39 (.agg #[.int .i64 0, .bool false, .int .i64 0]) 24 rfl Tryz.underlying27 info39 rfl (by decide) (by decide) (.slice A6 l1.length c6) l1 [x] (some ⟨by_, 0, none⟩) 1 1 (fun _ => True) (fun _ => False) rfl rfl PFo.out.1 (box_reads x PFo.out.2.1) (fun y cs hk => by rw [k39_open hk]; exact k39_mkM _ _ _ y) (fun _ hk => hk.elim) (fun _ _ => trivial) PFo.out.2.2 PFo.out.2.2.size (by have := HL.out.1; omega) ?_
 intro v4 w4 hr4 hb4 hg4 _
 have R4 := Aside0.mk hr4
 have B4 := Aside0.mk hb4
 have f7_ : ∀ {p : Addr} {u : Value}, w2.cell? p = some u → w4.cell? p = some u := fun h_ => hb4.kp h_
 have g_ : _ ∧ _ ∧ _ ∧ _ := ⟨f7_ z9, f7_ x0, f7_ x1, f7_ x2⟩
 obtain ⟨A4, c4, ev7⟩ := Kd.R_slice hr4
 subst ev7
 clear hr4 hb4 hg4 f7_
 refine hK.out _ _ ⟨g_.1, g_.2.1, g_.2.2.1, g_.2.2.2⟩ (fun hHeld => ?_)
 clear hK K
 refine nz_ ?_
 refine lz_ 10 19 12 2047 fun K hK => ?_
 have KS := vswap_calls (H2.out.below B4.out) HF.out (LK.fresh R4.out H2.out.lt) (L2.out.below B4.out) (by rw [List.length_append]; have := HL.out.1; simp; omega) (by have := HL.out.2; omega)
 rw [← HN.out.2, ← HR.out] at KS
 refine gz_ Tryz.func129 #[.pointer (some ⟨g, 0, none⟩), .slice A4 (l1 ++ [x]).length c4, .slice A2 n2 c2] ?_
 with_reducible refine (KS).mono ?_
 rintro e w5 ⟨rfl, S5, q5⟩
 have Q5 := Aside0.mk (q5.ahead (B2.out.trans (B4.out.mono B2.out.size)))
 clear q5
 refine ⟨_, rfl, ?_⟩
 refine hK.out _ _ ?_
 clear hK K
 refine nz_ ?_
 refine pz_ 11 8 12 4095 ?_
 refine dz_ ?_

 go_wp2_with fail
 go_ret
 rw [HR.out]
 exact ⟨rfl, S5, by have h_ := Q5.out; rw [HR.out] at h_; exact h_⟩
end
section
variable {w1 w w' : World} {D S S' : Nat → Prop} {kb g : Nat} {X : CX} {I : IX} {k k' : Chk} {f : Fr}
def i32T : S39 := ⟨1, false, 0⟩
/-- br_if. -/
noncomputable def brIfM (k : Chk) (f : Fr) (n : Nat) : Int × Chk := if (labM k.frames n).1 = 0 then swapM k f ((labM k.frames n).2 ++ [i32T]) (labM k.frames n).2 else ((labM k.frames n).1, k)
set_option maxHeartbeats 2000000 in
theorem vBrIf_calls (h : St D S g k w) (hF : Fit k f) (hk : KI w1 D S kb g X I w) (hx : XK w1 X I) : Calls Tryz.prog 92 #[.pointer (some ⟨kb, 0, none⟩)] w (SOut D S g (brIfM k f I.x) w) := by
 obtain ⟨er, l, hr⟩ : ∃ er l, labM k.frames I.x = (er, l) := ⟨_, _, rfl⟩
 have hll := labM_len hF.ios I.x
 have bd : Below w.heap.size w w.drew := (Below.refl _ _).drew
 have KL := hF.lab (h.below bd) I.x hx.x32
 obtain ⟨rr, hrr⟩ : ∃ rr, rr = brIfM k f I.x := ⟨_, rfl⟩
 have HR : Aside0 (rr = if er = 0 then swapM k f (l ++ [i32T]) l else (er, k)) := ⟨by rw [hrr]; unfold brIfM; rw [hr]⟩
 rw [← hrr]
 rw [hr] at KL hll
 clear hrr
 have H := Aside0.mk h
 have HF := Aside0.mk hF
 have HK := Aside0.mk hk
 have HL := Aside0.mk hll
 have BD := Aside0.mk bd
 have hkd := hk.below bd
 have z9 : w.drew.cell? ⟨kb, 9, none⟩ = some (.pointer (some ⟨g, 0, none⟩)) := (blk_cell hkd.box 9).trans rfl
 have z11 : w.drew.cell? ⟨kb, 11, none⟩ = some (.int .u32 I.x) := (blk_cell hkd.box 11).trans rfl
 have HE : Aside0 (er = 0 ∨ er ≠ 0) := ⟨Decidable.em _⟩
 clear h hF hk hx hr hll bd hkd
 go_enter Tryz.func92, Tryz.ntmps92
 go_wp2_with fail
 obtain ⟨w2, hw2⟩ : ∃ w2, World.drew w = w2 := ⟨_, rfl⟩
 rw [hw2] at KL BD z9 z11
 refine start_ (n := 15) (S := fun w' => w'.cell? ⟨kb, 9, none⟩ = some (.pointer (some ⟨g, 0, none⟩)) ∧ w'.cell? ⟨kb, 11, none⟩ = some (.int .u32 I.x)) (ds := []) (bm_ 15 0) (by kernel_rfl) rfl rfl ⟨(by rw [hw2]; exact z9), (by rw [hw2]; exact z11)⟩ (fun hHeld => ?_)
 rw [hw2] at hHeld ⊢
 clear hw2 z9 z11
 refine pz_ 0 6 15 1 ?_
 refine pz_ 1 7 15 3 ?_
 refine pz_ 2 8 15 7 ?_
 refine pz_ 4 10 15 23 ?_
 refine pz_ 5 11 15 55 ?_
 refine pz_ 6 12 15 119 ?_
 refine pz_ 7 13 15 247 ?_
 refine tz_ 3 9 15 255 hHeld ?_
 refine tz_ 8 14 15 511 hHeld ?_
 refine oz_ 9 15 15 1023 fun K hK => ?_
 refine gz_ Tryz.func78 #[.pointer (some ⟨g, 0, none⟩), .int .u32 I.x] ?_
 with_reducible refine (KL).mono ?_
 rintro e w3 ⟨v, rfl, hl, hb⟩
 obtain ⟨A, c, rfl⟩ := hl.slice
 have HL3 := Aside0.mk hl
 have B3 := Aside0.mk (BD.out.trans (hb.mono BD.out.size))
 have HB := Aside0.mk hb
 clear hl hb
 refine ⟨_, rfl, ?_⟩
 refine hK.out _ _ ⟨HB.out.kp hHeld.1, HB.out.kp hHeld.2⟩ (fun hHeld => ?_)
 clear hK K
 refine nz_ ?_
 refine pz_ 10 5 15 2047 ?_
 refine pz_ 11 16 15 4095 ?_
 refine pz_ 12 17 15 8191 ?_
 refine pz_ 13 3 15 16383 ?_
 refine pz_ 14 4 15 32767 ?_
 refine dz_ ?_

 rcases HE.out with he | he
 ·subst he
  have HR2 : Aside0 (rr = swapM k f (l ++ [i32T]) l) := ⟨by rw [HR.out, if_pos rfl]⟩
  clear HR
  have K2 := vwith_calls (H.out.below B3.out) HF.out (HK.out.below B3.out) i32T HL3.out HL3.out HL.out HL.out
  dsimp only [i32T] at K2
  clear KL
  go_wp2_with fail
  refine K2.mono ?_
  rintro e w4 ⟨rfl, S4, q4⟩
  have Q4 := Aside0.mk (q4.ahead B3.out)
  clear K2 q4
  go_wp2_with fail
  go_ret
  rw [HR2.out]
  exact ⟨rfl, S4, Q4.out⟩
 ·have HR2 : Aside0 (rr = (er, k)) := ⟨by rw [HR.out, if_neg he]⟩
  have g0 : (er == 0) = false := beq_eq_false_iff_ne.mpr he
  have g1 : (er != 0) = true := bne_iff_ne.mpr he
  clear KL he
  go_wp2_with fail
  go_ret
  rw [HR2.out]
  exact ⟨rfl, S, (Kst.refl H.out).below B3.out⟩
end
section
variable {w1 w w' : World} {D S S' : Nat → Prop} {kb g : Nat} {X : CX} {I : IX} {k k' : Chk} {f : Fr}
/-- back. -/
def backM (k : Chk) (n : Nat) (x : S39) : Chk := if k.ops.length < n then { k with ops := k.ops ++ [x] } else k
set_option maxHeartbeats 2000000 in
theorem vback_calls (h : St D S g k w) (hF : Fit k f) (hk : KI w1 D S kb g X I w) (n : Nat) (x : S39) (er : Int) (hn : n ≤ 9223372036854775807) : Calls Tryz.prog 131 #[.pointer (some ⟨kb, 0, none⟩), .int .i64 n, .agg #[.int .i64 x.f0, .bool x.f1, .int .i64 x.f2], .int .i64 er] w (KOut D S g (backM k n x) (.int .i64 er) w) := by
 obtain ⟨w2, hw2⟩ : ∃ w2, w2 = w.alloc (.cells #[.int .i64 x.f0, .bool x.f1, .int .i64 x.f2] 39) := ⟨_, rfl⟩
 have b2 : Below w.heap.size w w2 := by rw [hw2]; exact bz_
 have BX := Aside0.mk (show w2.heap[w.heap.size]? = some (.cells #[.int .i64 x.f0, .bool x.f1, .int .i64 x.f2] 39 (0, 0)) by rw [hw2]; exact blk_new w _)
 have K := kHeight_calls (h.below b2)
 have z9 : (w.alloc (.cells #[.int .i64 x.f0, .bool x.f1, .int .i64 x.f2] 39)).cell? ⟨kb, 9, none⟩ = some (.pointer (some ⟨g, 0, none⟩)) := by rw [← hw2]; exact (hk.below b2).pc
 have H2 := Aside0.mk (h.below b2)
 have K2 := Aside0.mk (hk.below b2)
 have HF := Aside0.mk hF
 have B2 := Aside0.mk b2
 obtain ⟨m, hm⟩ : ∃ m, m = k.ops.length := ⟨_, rfl⟩
 have HM := Aside0.mk hm
 have hm8 : m ≤ 8388608 := by rw [hm]; exact hF.ops
 rw [← hm] at K
 obtain ⟨rr, hrr⟩ : ∃ rr, rr = backM k n x := ⟨_, rfl⟩
 rw [← hrr]
 have HR := Aside0.mk hrr
 clear h hF hk b2 hm hrr
 by_cases hlt : m < n
 ·have g1 : decide ((m : Int) < (n : Int)) = true := decide_eq_true (by omega)
  have g2 : decide (m < n) = true := decide_eq_true hlt
  have HR2 : Aside0 (rr = { k with ops := k.ops ++ [x] }) := ⟨by rw [HR.out]; unfold backM; rw [if_pos (by rw [← HM.out]; exact hlt)]⟩
  clear hlt
  go_enter Tryz.func131, Tryz.ntmps131
  go_wp2_with fail
  rw [← hw2]
  clear hw2 z9
  refine K.mono ?_
  rintro e w2 ⟨rfl, rfl⟩
  clear K
  go_wp2_with fail
  obtain ⟨w3, hw3⟩ : ∃ w3, World.drew w2 = w3 := ⟨_, rfl⟩
  have b3 : Below w2.heap.size w2 w3 := by rw [← hw3]; exact (Below.refl _ _).drew
  have H3 := H2.out.below b3
  have KP := kPush_calls H3 x HF.out.pos (by have := HF.out.ops; omega)
  have B3 := Aside0.mk (B2.out.trans (b3.mono B2.out.size))
  have z9 : w3.cell? ⟨kb, 9, none⟩ = some (.pointer (some ⟨g, 0, none⟩)) := (K2.out.below b3).pc
  have BX3 := blk_below BX.out b3
  have x0 : w3.cell? ⟨w.heap.size, 0, none⟩ = some (.int .i64 x.f0) := (blk_cell BX3 0).trans rfl
  have x1 : w3.cell? ⟨w.heap.size, 1, none⟩ = some (.bool x.f1) := (blk_cell BX3 1).trans rfl
  have x2 : w3.cell? ⟨w.heap.size, 2, none⟩ = some (.int .i64 x.f2) := (blk_cell BX3 2).trans rfl
  clear b3 H3 BX3
  refine start_ (n := 6) (S := fun w' => w'.cell? ⟨kb, 9, none⟩ = some (.pointer (some ⟨g, 0, none⟩)) ∧ w'.cell? ⟨w.heap.size, 0, none⟩ = some (.int .i64 x.f0) ∧ w'.cell? ⟨w.heap.size, 1, none⟩ = some (.bool x.f1) ∧ w'.cell? ⟨w.heap.size, 2, none⟩ = some (.int .i64 x.f2)) (ds := [5]) (bm_ 6 0) (by kernel_rfl) rfl rfl ⟨(by rw [hw3]; exact z9), (by rw [hw3]; exact x0), (by rw [hw3]; exact x1), (by rw [hw3]; exact x2)⟩ (fun hHeld => ?_)
  rw [hw3] at hHeld ⊢
  clear hw3 z9 x0 x1 x2
  refine pz_ 0 16 6 1 ?_
  refine pz_ 1 17 6 3 ?_
  refine pz_ 2 18 6 7 ?_
  refine tz_ 3 19 6 15 hHeld ?_
  refine tz_ 4 20 6 31 hHeld ?_
  refine lz_ 5 21 6 63 fun K hK => ?_
  refine gz_ Tryz.func40 #[.pointer (some ⟨g, 0, none⟩), .agg #[.int .i64 x.f0, .bool x.f1, .int .i64 x.f2]] ?_
  with_reducible refine (KP).mono ?_
  rintro e w4 ⟨rfl, S4, q4⟩
  have Q4 := Aside0.mk (q4.ahead B3.out)
  clear q4
  refine ⟨_, rfl, ?_⟩
  refine hK.out _ _ ?_
  clear hK K
  refine nz_ ?_
  refine dz_ ?_

  go_wp2_with fail
  go_ret
  rw [HR2.out]
  exact ⟨rfl, S4, Q4.out⟩
 ·have g1 : decide ((m : Int) < (n : Int)) = false := decide_eq_false (by omega)
  have g2 : decide (m < n) = false := decide_eq_false hlt
  have HR2 : Aside0 (rr = k) := ⟨by rw [HR.out]; unfold backM; rw [if_neg (by rw [← HM.out]; exact hlt)]⟩
  clear hlt
  go_enter Tryz.func131, Tryz.ntmps131
  go_wp2_with fail
  rw [← hw2]
  clear hw2 z9
  refine K.mono ?_
  rintro e w2 ⟨rfl, rfl⟩
  clear K
  go_wp2_with fail
  go_ret
  rw [HR2.out]
  exact ⟨rfl, S, (Kst.refl H2.out).ahead B2.out⟩
/-- popRef. -/
def popRefM (k : Chk) (f : Fr) : Int × S39 × Chk :=
 if (popM f.height f.dead k.ops).1 ≠ 0 then ((popM f.height f.dead k.ops).1, (popM f.height f.dead k.ops).2.1, { k with ops := (popM f.height f.dead k.ops).2.2 })
 else if (popM f.height f.dead k.ops).2.1.f0 = 5 ∨ (popM f.height f.dead k.ops).2.1.f0 = 0 then (0, (popM f.height f.dead k.ops).2.1, { k with ops := (popM f.height f.dead k.ops).2.2 })
 else (131, (popM f.height f.dead k.ops).2.1, { k with ops := (popM f.height f.dead k.ops).2.2 ++ [(popM f.height f.dead k.ops).2.1] })
set_option maxHeartbeats 4000000 in
theorem vpopRef_bad (h : St D S g k w) (hF : Fit k f) (hk : KI w1 D S kb g X I w) (x : S39) (o' : List S39) {er : Int} (hp : popM f.height f.dead k.ops = (er, x, o')) (he : er ≠ 0) : Calls Tryz.prog 130 #[.pointer (some ⟨kb, 0, none⟩)] w (KOut D S g { k with ops := o' } (.tuple #[.agg #[.int .i64 x.f0, .bool x.f1, .int .i64 x.f2], .int .i64 er]) w) := by
 obtain ⟨W, hW⟩ : ∃ W, W = w.alloc (.cells #[.int .i64 0, .bool false, .int .i64 0] 39) := ⟨_, rfl⟩
 have b1 : Below w.heap.size w W := by rw [hW]; exact bz_
 have q1 : W.heap[w.heap.size]? = some (.cells #[.int .i64 0, .bool false, .int .i64 0] 39 (0, 0)) := by rw [hW]; exact blk_new w _
 have h1 := h.more (p := w.heap.size) b1 (Nat.le_refl _) (blk_lt q1)
 have hk1 : KI w1 (fun y => D y ∨ y = w.heap.size) S kb g X I W := ⟨(hk.below b1).box, (hk.below b1).bel, fun y e => e.elim (fun e => hk.nw y (.inl e)) (fun e => e.elim (fun e => hk.nw y (.inr e)) (fun e => by rw [e]; exact hk.bel.size)), hk.nS⟩
 have K := kPop_calls h1 hF.lf hF.h (by have := hF.ops; omega) (by have := hF.frs; omega) hp
 have z9 : (w.alloc (.cells #[.int .i64 0, .bool false, .int .i64 0] 39)).cell? ⟨kb, 9, none⟩ = some (.pointer (some ⟨g, 0, none⟩)) := by rw [← hW]; exact hk1.pc
 have SL : Aside0 (∀ y, S y → y < w.heap.size) := ⟨fun y hy => h.lt y (.inl hy)⟩
 have H1 := Aside0.mk h1
 have K1 := Aside0.mk hk1
 have Q1 := Aside0.mk q1
 have B1 := Aside0.mk b1
 have HF := Aside0.mk hF
 have HP := Aside0.mk hp
 have g0 : (er == 0) = false := beq_eq_false_iff_ne.mpr he
 have g1 : (er != 0) = true := bne_iff_ne.mpr he
 clear he
 clear h hF hk hp b1 q1 h1 hk1
 go_enter Tryz.func130, Tryz.ntmps130
 go_wp2_with fail
 rw [← hW]
 clear hW z9
 refine K.mono ?_
 rintro e w2 ⟨rfl, S2, q2⟩
 have q1 := q2.chg.blk Q1.out (fun e => by have := SL.out _ e; omega)
 have QS := Aside0.mk q2
 have Q2 := Aside0.mk q1
 have p0 : w2.cell? ⟨w.heap.size, 0, none⟩ = some (.int .i64 0) := (blk_cell q1 0).trans rfl
 have p1 : w2.cell? ⟨w.heap.size, 1, none⟩ = some (.bool false) := (blk_cell q1 1).trans rfl
 have p2 : w2.cell? ⟨w.heap.size, 2, none⟩ = some (.int .i64 0) := (blk_cell q1 2).trans rfl
 have f0 : w2.frozen? ⟨w.heap.size, 0, none⟩ = false := blk_frozen q1 0
 have f1 : w2.frozen? ⟨w.heap.size, 1, none⟩ = false := blk_frozen q1 1
 have f2 : w2.frozen? ⟨w.heap.size, 2, none⟩ = false := blk_frozen q1 2
 have lp : w.heap.size < w2.heap.size := blk_lt q1
 clear K q1 q2
 go_wp2_with fail
 refine bodyPost_ret (v := .tuple #[.agg #[.int .i64 x.f0, .bool x.f1, .int .i64 x.f2], .int .i64 er]) ?_ rfl ?_
 ·exact results_ct (p := 2) (u := 3) rfl _ _ w.heap.size 39 #[.int .i64 x.f0, .bool x.f1, .int .i64 x.f2] (0, 0) _ rfl (blk_alloc (set3_blk Q2.out) _) Tryz.underlying39 rfl (by kernel_rfl)
 exact ⟨rfl, S2, Kst.cell B1.out (Nat.le_refl _) QS.out ((set3_chg w2 w.heap.size _ _ _).trans (chg_alloc (fun _ => False) _ _) (fun _ e => .inl e) (fun _ e => e.elim)) (fun _ e => e)⟩
set_option maxHeartbeats 4000000 in
theorem vpopRef_ref (h : St D S g k w) (hF : Fit k f) (hk : KI w1 D S kb g X I w) (x : S39) (o' : List S39) (hp : popM f.height f.dead k.ops = (0, x, o')) (hx : x.f0 = 5) : Calls Tryz.prog 130 #[.pointer (some ⟨kb, 0, none⟩)] w (KOut D S g { k with ops := o' } (.tuple #[.agg #[.int .i64 x.f0, .bool x.f1, .int .i64 x.f2], .int .i64 0]) w) := by
 obtain ⟨W, hW⟩ : ∃ W, W = w.alloc (.cells #[.int .i64 0, .bool false, .int .i64 0] 39) := ⟨_, rfl⟩
 have b1 : Below w.heap.size w W := by rw [hW]; exact bz_
 have q1 : W.heap[w.heap.size]? = some (.cells #[.int .i64 0, .bool false, .int .i64 0] 39 (0, 0)) := by rw [hW]; exact blk_new w _
 have h1 := h.more (p := w.heap.size) b1 (Nat.le_refl _) (blk_lt q1)
 have hk1 : KI w1 (fun y => D y ∨ y = w.heap.size) S kb g X I W := ⟨(hk.below b1).box, (hk.below b1).bel, fun y e => e.elim (fun e => hk.nw y (.inl e)) (fun e => e.elim (fun e => hk.nw y (.inr e)) (fun e => by rw [e]; exact hk.bel.size)), hk.nS⟩
 have K := kPop_calls h1 hF.lf hF.h (by have := hF.ops; omega) (by have := hF.frs; omega) hp
 have z9 : (w.alloc (.cells #[.int .i64 0, .bool false, .int .i64 0] 39)).cell? ⟨kb, 9, none⟩ = some (.pointer (some ⟨g, 0, none⟩)) := by rw [← hW]; exact hk1.pc
 have SL : Aside0 (∀ y, S y → y < w.heap.size) := ⟨fun y hy => h.lt y (.inl hy)⟩
 have H1 := Aside0.mk h1
 have K1 := Aside0.mk hk1
 have Q1 := Aside0.mk q1
 have B1 := Aside0.mk b1
 have HF := Aside0.mk hF
 have HP := Aside0.mk hp
 have g0 : (x.f0 == 5) = true := beq_iff_eq.mpr hx
 have g1 : (x.f0 != 5) = false := bne_eq_false_iff_eq.mpr hx
 clear hx
 clear h hF hk hp b1 q1 h1 hk1
 go_enter Tryz.func130, Tryz.ntmps130
 go_wp2_with fail
 rw [← hW]
 clear hW z9
 refine K.mono ?_
 rintro e w2 ⟨rfl, S2, q2⟩
 have q1 := q2.chg.blk Q1.out (fun e => by have := SL.out _ e; omega)
 have QS := Aside0.mk q2
 have Q2 := Aside0.mk q1
 have p0 : w2.cell? ⟨w.heap.size, 0, none⟩ = some (.int .i64 0) := (blk_cell q1 0).trans rfl
 have p1 : w2.cell? ⟨w.heap.size, 1, none⟩ = some (.bool false) := (blk_cell q1 1).trans rfl
 have p2 : w2.cell? ⟨w.heap.size, 2, none⟩ = some (.int .i64 0) := (blk_cell q1 2).trans rfl
 have f0 : w2.frozen? ⟨w.heap.size, 0, none⟩ = false := blk_frozen q1 0
 have f1 : w2.frozen? ⟨w.heap.size, 1, none⟩ = false := blk_frozen q1 1
 have f2 : w2.frozen? ⟨w.heap.size, 2, none⟩ = false := blk_frozen q1 2
 have lp : w.heap.size < w2.heap.size := blk_lt q1
 clear K q1 q2
 go_wp2_with fail
 refine bodyPost_ret (v := .tuple #[.agg #[.int .i64 x.f0, .bool x.f1, .int .i64 x.f2], .int .i64 0]) ?_ rfl ?_
 ·exact results_ct (p := 2) (u := 3) rfl _ _ w.heap.size 39 #[.int .i64 x.f0, .bool x.f1, .int .i64 x.f2] (0, 0) _ rfl (blk_alloc (set3_blk Q2.out) _) Tryz.underlying39 rfl (by kernel_rfl)
 exact ⟨rfl, S2, Kst.cell B1.out (Nat.le_refl _) QS.out ((set3_chg w2 w.heap.size _ _ _).trans (chg_alloc (fun _ => False) _ _) (fun _ e => .inl e) (fun _ e => e.elim)) (fun _ e => e)⟩
set_option maxHeartbeats 4000000 in
theorem vpopRef_none (h : St D S g k w) (hF : Fit k f) (hk : KI w1 D S kb g X I w) (x : S39) (o' : List S39) (hp : popM f.height f.dead k.ops = (0, x, o')) (hx : x.f0 = 0) : Calls Tryz.prog 130 #[.pointer (some ⟨kb, 0, none⟩)] w (KOut D S g { k with ops := o' } (.tuple #[.agg #[.int .i64 x.f0, .bool x.f1, .int .i64 x.f2], .int .i64 0]) w) := by
 obtain ⟨W, hW⟩ : ∃ W, W = w.alloc (.cells #[.int .i64 0, .bool false, .int .i64 0] 39) := ⟨_, rfl⟩
 have b1 : Below w.heap.size w W := by rw [hW]; exact bz_
 have q1 : W.heap[w.heap.size]? = some (.cells #[.int .i64 0, .bool false, .int .i64 0] 39 (0, 0)) := by rw [hW]; exact blk_new w _
 have h1 := h.more (p := w.heap.size) b1 (Nat.le_refl _) (blk_lt q1)
 have hk1 : KI w1 (fun y => D y ∨ y = w.heap.size) S kb g X I W := ⟨(hk.below b1).box, (hk.below b1).bel, fun y e => e.elim (fun e => hk.nw y (.inl e)) (fun e => e.elim (fun e => hk.nw y (.inr e)) (fun e => by rw [e]; exact hk.bel.size)), hk.nS⟩
 have K := kPop_calls h1 hF.lf hF.h (by have := hF.ops; omega) (by have := hF.frs; omega) hp
 have z9 : (w.alloc (.cells #[.int .i64 0, .bool false, .int .i64 0] 39)).cell? ⟨kb, 9, none⟩ = some (.pointer (some ⟨g, 0, none⟩)) := by rw [← hW]; exact hk1.pc
 have SL : Aside0 (∀ y, S y → y < w.heap.size) := ⟨fun y hy => h.lt y (.inl hy)⟩
 have H1 := Aside0.mk h1
 have K1 := Aside0.mk hk1
 have Q1 := Aside0.mk q1
 have B1 := Aside0.mk b1
 have HF := Aside0.mk hF
 have HP := Aside0.mk hp
 have g0 : (x.f0 == 5) = false := beq_eq_false_iff_ne.mpr (by omega)
 have g1 : (x.f0 != 5) = true := bne_iff_ne.mpr (by omega)
 have g2 : (x.f0 == 0) = true := beq_iff_eq.mpr hx
 have g3 : (x.f0 != 0) = false := bne_eq_false_iff_eq.mpr hx
 clear hx
 clear h hF hk hp b1 q1 h1 hk1
 go_enter Tryz.func130, Tryz.ntmps130
 go_wp2_with fail
 rw [← hW]
 clear hW z9
 refine K.mono ?_
 rintro e w2 ⟨rfl, S2, q2⟩
 have q1 := q2.chg.blk Q1.out (fun e => by have := SL.out _ e; omega)
 have QS := Aside0.mk q2
 have Q2 := Aside0.mk q1
 have p0 : w2.cell? ⟨w.heap.size, 0, none⟩ = some (.int .i64 0) := (blk_cell q1 0).trans rfl
 have p1 : w2.cell? ⟨w.heap.size, 1, none⟩ = some (.bool false) := (blk_cell q1 1).trans rfl
 have p2 : w2.cell? ⟨w.heap.size, 2, none⟩ = some (.int .i64 0) := (blk_cell q1 2).trans rfl
 have f0 : w2.frozen? ⟨w.heap.size, 0, none⟩ = false := blk_frozen q1 0
 have f1 : w2.frozen? ⟨w.heap.size, 1, none⟩ = false := blk_frozen q1 1
 have f2 : w2.frozen? ⟨w.heap.size, 2, none⟩ = false := blk_frozen q1 2
 have lp : w.heap.size < w2.heap.size := blk_lt q1
 clear K q1 q2
 go_wp2_with fail
 refine bodyPost_ret (v := .tuple #[.agg #[.int .i64 x.f0, .bool x.f1, .int .i64 x.f2], .int .i64 0]) ?_ rfl ?_
 ·exact results_ct (p := 2) (u := 3) rfl _ _ w.heap.size 39 #[.int .i64 x.f0, .bool x.f1, .int .i64 x.f2] (0, 0) _ rfl (blk_alloc (set3_blk Q2.out) _) Tryz.underlying39 rfl (by kernel_rfl)
 exact ⟨rfl, S2, Kst.cell B1.out (Nat.le_refl _) QS.out ((set3_chg w2 w.heap.size _ _ _).trans (chg_alloc (fun _ => False) _ _) (fun _ e => .inl e) (fun _ e => e.elim)) (fun _ e => e)⟩
theorem popM_len (h : Nat) (d : Bool) (ops : List S39) : (popM h d ops).2.2.length ≤ ops.length := by
 unfold popM
 split
 ·simp
 ·split <;> exact Nat.le_refl _
set_option maxHeartbeats 4000000 in
theorem vpopRef_type (h : St D S g k w) (hF : Fit k f) (hk : KI w1 D S kb g X I w) (x : S39) (o' : List S39) (hp : popM f.height f.dead k.ops = (0, x, o')) (hx : x.f0 ≠ 5) (hy : x.f0 ≠ 0) : Calls Tryz.prog 130 #[.pointer (some ⟨kb, 0, none⟩)] w (KOut D S g { k with ops := o' ++ [x] } (.tuple #[.agg #[.int .i64 x.f0, .bool x.f1, .int .i64 x.f2], .int .i64 131]) w) := by
 obtain ⟨W, hW⟩ : ∃ W, W = w.alloc (.cells #[.int .i64 0, .bool false, .int .i64 0] 39) := ⟨_, rfl⟩
 have b1 : Below w.heap.size w W := by rw [hW]; exact bz_
 have q1 : W.heap[w.heap.size]? = some (.cells #[.int .i64 0, .bool false, .int .i64 0] 39 (0, 0)) := by rw [hW]; exact blk_new w _
 have h1 := h.more (p := w.heap.size) b1 (Nat.le_refl _) (blk_lt q1)
 have hk1 : KI w1 (fun y => D y ∨ y = w.heap.size) S kb g X I W := ⟨(hk.below b1).box, (hk.below b1).bel, fun y e => e.elim (fun e => hk.nw y (.inl e)) (fun e => e.elim (fun e => hk.nw y (.inr e)) (fun e => by rw [e]; exact hk.bel.size)), hk.nS⟩
 have K := kPop_calls h1 hF.lf hF.h (by have := hF.ops; omega) (by have := hF.frs; omega) hp
 have z9 : (w.alloc (.cells #[.int .i64 0, .bool false, .int .i64 0] 39)).cell? ⟨kb, 9, none⟩ = some (.pointer (some ⟨g, 0, none⟩)) := by rw [← hW]; exact hk1.pc
 have SL : Aside0 (∀ y, S y → y < w.heap.size) := ⟨fun y hy => h.lt y (.inl hy)⟩
 have H1 := Aside0.mk h1
 have K1 := Aside0.mk hk1
 have Q1 := Aside0.mk q1
 have B1 := Aside0.mk b1
 have HF := Aside0.mk hF
 have HP := Aside0.mk hp
 have g0 : (x.f0 == 5) = false := beq_eq_false_iff_ne.mpr hx
 have g1 : (x.f0 != 5) = true := bne_iff_ne.mpr hx
 have g2 : (x.f0 == 0) = false := beq_eq_false_iff_ne.mpr hy
 have g3 : (x.f0 != 0) = true := bne_iff_ne.mpr hy
 have HPL : Aside0 (o'.length ≤ k.ops.length) := ⟨by have h_ := popM_len f.height f.dead k.ops; rw [hp] at h_; exact h_⟩
 clear hx hy
 clear h hF hk hp b1 q1 h1 hk1
 go_enter Tryz.func130, Tryz.ntmps130
 go_wp2_with fail
 rw [← hW]
 clear hW z9
 refine K.mono ?_
 rintro e w2 ⟨rfl, S2, q2⟩
 have q1 := q2.chg.blk Q1.out (fun e => by have := SL.out _ e; omega)
 have QS := Aside0.mk q2
 have Q2 := Aside0.mk q1
 have p0 : w2.cell? ⟨w.heap.size, 0, none⟩ = some (.int .i64 0) := (blk_cell q1 0).trans rfl
 have p1 : w2.cell? ⟨w.heap.size, 1, none⟩ = some (.bool false) := (blk_cell q1 1).trans rfl
 have p2 : w2.cell? ⟨w.heap.size, 2, none⟩ = some (.int .i64 0) := (blk_cell q1 2).trans rfl
 have f0 : w2.frozen? ⟨w.heap.size, 0, none⟩ = false := blk_frozen q1 0
 have f1 : w2.frozen? ⟨w.heap.size, 1, none⟩ = false := blk_frozen q1 1
 have f2 : w2.frozen? ⟨w.heap.size, 2, none⟩ = false := blk_frozen q1 2
 have lp : w.heap.size < w2.heap.size := blk_lt q1
 clear K q1 q2
 go_wp2_with fail
 obtain ⟨w3, hw3⟩ : ∃ w3, World.drew (w2.alloc (.cells #[.int .i64 x.f0, .bool x.f1, .int .i64 x.f2] 39)) = w3 := ⟨_, rfl⟩
 have b3 : Below w2.heap.size w2 w3 := by rw [← hw3]; exact (bz_).drew
 have q3 : w3.heap[w2.heap.size]? = some (.cells #[.int .i64 x.f0, .bool x.f1, .int .i64 x.f2] 39 (0, 0)) := by rw [← hw3]; exact blk_new w2 _
 have KP := kPush_calls (QS.out.st.below b3) x HF.out.pos (by have h1 := HF.out.ops; have h2 := HPL.out; dsimp only; omega)
 have QT := Aside0.mk (QS.out.below b3)
 have z9 : w3.cell? ⟨kb, 9, none⟩ = some (.pointer (some ⟨g, 0, none⟩)) := ((K1.out.kst QS.out).below b3).pc
 have x0 : w3.cell? ⟨w2.heap.size, 0, none⟩ = some (.int .i64 x.f0) := (blk_cell q3 0).trans rfl
 have x1 : w3.cell? ⟨w2.heap.size, 1, none⟩ = some (.bool x.f1) := (blk_cell q3 1).trans rfl
 have x2 : w3.cell? ⟨w2.heap.size, 2, none⟩ = some (.int .i64 x.f2) := (blk_cell q3 2).trans rfl
 have PN : Aside0 (¬ S2 w.heap.size ∧ ¬ S2 w2.heap.size) := ⟨fun e => (QS.out.grow _ e).elim (fun e => by have := SL.out _ e; omega) (fun l => by have := blk_lt Q1.out; omega), fun e => by have := QS.out.st.lt _ (.inl e); omega⟩
 have Q3 := Aside0.mk (And.intro (blk_below Q2.out b3) q3)
 clear b3 q3 p0 p1 p2 f0 f1 f2 lp
 refine start_ (n := 6) (S := fun w' => w'.cell? ⟨kb, 9, none⟩ = some (.pointer (some ⟨g, 0, none⟩)) ∧ w'.cell? ⟨w2.heap.size, 0, none⟩ = some (.int .i64 x.f0) ∧ w'.cell? ⟨w2.heap.size, 1, none⟩ = some (.bool x.f1) ∧ w'.cell? ⟨w2.heap.size, 2, none⟩ = some (.int .i64 x.f2)) (ds := [5]) (bm_ 6 0) (by kernel_rfl) rfl rfl ⟨(by rw [hw3]; exact z9), (by rw [hw3]; exact x0), (by rw [hw3]; exact x1), (by rw [hw3]; exact x2)⟩ (fun hHeld => ?_)
 rw [hw3] at hHeld ⊢
 clear hw3 z9 x0 x1 x2
 refine pz_ 0 26 6 1 ?_
 refine pz_ 1 27 6 3 ?_
 refine pz_ 2 28 6 7 ?_
 refine tz_ 3 29 6 15 hHeld ?_
 refine tz_ 4 30 6 31 hHeld ?_
 refine lz_ 5 31 6 63 fun K hK => ?_
 refine gz_ Tryz.func40 #[.pointer (some ⟨g, 0, none⟩), .agg #[.int .i64 x.f0, .bool x.f1, .int .i64 x.f2]] ?_
 with_reducible refine (KP).mono ?_
 rintro e w4 ⟨rfl, S4, q4⟩
 have QP := Aside0.mk q4
 clear q4
 refine ⟨_, rfl, ?_⟩
 refine hK.out _ _ ?_
 clear hK K
 refine nz_ ?_
 refine dz_ ?_

 have q4 := QP.out.chg.blk Q3.out.1 PN.out.1
 have q5 := QP.out.chg.blk Q3.out.2 PN.out.2
 have p0 : w4.cell? ⟨w.heap.size, 0, none⟩ = some (.int .i64 0) := (blk_cell q4 0).trans rfl
 have p1 : w4.cell? ⟨w.heap.size, 1, none⟩ = some (.bool false) := (blk_cell q4 1).trans rfl
 have p2 : w4.cell? ⟨w.heap.size, 2, none⟩ = some (.int .i64 0) := (blk_cell q4 2).trans rfl
 have f0 : w4.frozen? ⟨w.heap.size, 0, none⟩ = false := blk_frozen q4 0
 have f1 : w4.frozen? ⟨w.heap.size, 1, none⟩ = false := blk_frozen q4 1
 have f2 : w4.frozen? ⟨w.heap.size, 2, none⟩ = false := blk_frozen q4 2
 have x0 : w4.cell? ⟨w2.heap.size, 0, none⟩ = some (.int .i64 x.f0) := (blk_cell q5 0).trans rfl
 have x1 : w4.cell? ⟨w2.heap.size, 1, none⟩ = some (.bool x.f1) := (blk_cell q5 1).trans rfl
 have x2 : w4.cell? ⟨w2.heap.size, 2, none⟩ = some (.int .i64 x.f2) := (blk_cell q5 2).trans rfl
 have Q4 := Aside0.mk q4
 clear q4 q5
 go_wp2_with fail
 refine bodyPost_ret (v := .tuple #[.agg #[.int .i64 x.f0, .bool x.f1, .int .i64 x.f2], .int .i64 131]) ?_ rfl ?_
 ·exact results_ct (p := 2) (u := 3) rfl _ _ w.heap.size 39 #[.int .i64 x.f0, .bool x.f1, .int .i64 x.f2] (0, 0) _ rfl (set3_blk Q4.out) Tryz.underlying39 rfl (by kernel_rfl)
 exact ⟨rfl, S4, Kst.cell B1.out (Nat.le_refl _) (QT.out.trans QP.out) (set3_chg w4 w.heap.size _ _ _) (fun _ e => e)⟩
theorem vpopRef_calls (h : St D S g k w) (hF : Fit k f) (hk : KI w1 D S kb g X I w) : Calls Tryz.prog 130 #[.pointer (some ⟨kb, 0, none⟩)] w (KOut D S g (popRefM k f).2.2 (.tuple #[.agg #[.int .i64 (popRefM k f).2.1.f0, .bool (popRefM k f).2.1.f1, .int .i64 (popRefM k f).2.1.f2], .int .i64 (popRefM k f).1]) w) := by
 obtain ⟨er, x, o', hp⟩ : ∃ er x o', popM f.height f.dead k.ops = (er, x, o') := ⟨_, _, _, rfl⟩
 unfold popRefM
 rw [hp]
 dsimp only
 by_cases he : er = 0
 ·subst he
  rw [if_neg (by simp)]
  by_cases h5 : x.f0 = 5
  ·rw [if_pos (.inl h5)]
   exact vpopRef_ref h hF hk x o' hp h5
  ·by_cases h0 : x.f0 = 0
   ·rw [if_pos (.inr h0)]
    exact vpopRef_none h hF hk x o' hp h0
   ·rw [if_neg (by simp [h5, h0])]
    exact vpopRef_type h hF hk x o' hp h5 h0
 ·rw [if_pos he]
  exact vpopRef_bad h hF hk x o' hp he
end
section
variable {w1 w w' : World} {D S S' : Nat → Prop} {kb g : Nat} {X : CX} {I : IX} {k k' : Chk} {f : Fr}
theorem popM_fit {h : Nat} {d : Bool} {ops o' : List S39} {x : S39} (hp : popM h d ops = (0, x, o')) (hh : h ≤ ops.length) : h ≤ o'.length ∧ o'.length ≤ ops.length := by
 unfold popM at hp
 split at hp
 ·simp only [Prod.mk.injEq] at hp
  obtain ⟨_, _, rfl⟩ := hp
  rw [List.length_dropLast]
  omega
 ·split at hp
  ·simp only [Prod.mk.injEq] at hp
   obtain ⟨_, _, rfl⟩ := hp
   exact ⟨hh, Nat.le_refl _⟩
  ·simp only [Prod.mk.injEq] at hp
   exact absurd hp.1 (by decide)
theorem Fit.popRef (h : Fit k f) (he : (popRefM k f).1 = 0) : Fit (popRefM k f).2.2 f := by
 obtain ⟨er, x, o', hp⟩ : ∃ er x o', popM f.height f.dead k.ops = (er, x, o') := ⟨_, _, _, rfl⟩
 unfold popRefM at he ⊢
 rw [hp] at he ⊢
 dsimp only at he ⊢
 by_cases h0 : er = 0
 ·subst h0
  have hf := popM_fit hp h.h
  rw [if_neg (by simp)] at he ⊢
  by_cases hx : x.f0 = 5 ∨ x.f0 = 0
  ·rw [if_pos hx]
   exact h.cut hf.1 (Nat.le_trans hf.2 h.ops)
  ·rw [if_neg hx] at he
   exact absurd (show (131 : Int) = 0 from he) (by decide)
 ·rw [if_pos h0] at he
  exact absurd he h0
/-- br_on_null. -/
noncomputable def onNullM (k : Chk) (f : Fr) (n : Nat) : Int × Chk :=
 if (labM k.frames n).1 ≠ 0 then ((labM k.frames n).1, k)
 else if (popRefM k f).1 ≠ 0 then ((popRefM k f).1, (popRefM k f).2.2)
 else if (swapM (popRefM k f).2.2 f (labM k.frames n).2 (labM k.frames n).2).1 ≠ 0 then ((swapM (popRefM k f).2.2 f (labM k.frames n).2 (labM k.frames n).2).1, backM (popRefM k f).2.2 k.ops.length (popRefM k f).2.1)
 else (0, { (swapM (popRefM k f).2.2 f (labM k.frames n).2 (labM k.frames n).2).2 with ops := (swapM (popRefM k f).2.2 f (labM k.frames n).2 (labM k.frames n).2).2.ops ++ [{ (popRefM k f).2.1 with f1 := false }] })
theorem swapM_bad {l1 l2 : List S39} (h : (swapM k f l1 l2).1 ≠ 0) : (swapM k f l1 l2).2 = k := by
 unfold swapM at h ⊢
 split
 ·rename_i h1
  rw [if_pos h1] at h
  exact absurd rfl h
 ·rfl
theorem swapM_len (hF : Fit k f) {l1 l2 : List S39} (h1 : l1.length ≤ 1048576) (h2 : l2.length ≤ 1048576) : (swapM k f l1 l2).2.ops.length ≤ 9437184 ∧ (swapM k f l1 l2).2.frames = k.frames := by
 unfold swapM
 split
 ·refine ⟨?_, rfl⟩
  dsimp only
  have h3 := popsM_inv (l := k.l) (dead := f.dead) l1 k.ops hF.h
  have h4 := hF.ops
  rw [List.length_append]
  omega
 ·exact ⟨by have := hF.ops; dsimp only; omega, rfl⟩
set_option maxHeartbeats 4000000 in
theorem vOnNull_calls (h : St D S g k w) (hF : Fit k f) (hk : KI w1 D S kb g X I w) (hx : XK w1 X I) : Calls Tryz.prog 97 #[.pointer (some ⟨kb, 0, none⟩)] w (SOut D S g (onNullM k f I.x) w) := by
 obtain ⟨er, l, hr⟩ : ∃ er l, labM k.frames I.x = (er, l) := ⟨_, _, rfl⟩
 obtain ⟨pe, x, kp, hpr⟩ : ∃ pe x kp, popRefM k f = (pe, x, kp) := ⟨_, _, _, rfl⟩
 obtain ⟨se, ks, hsw⟩ : ∃ se ks, swapM kp f l l = (se, ks) := ⟨_, _, rfl⟩
 have hll := labM_len hF.ios I.x
 have bd : Below w.heap.size w w.drew := (Below.refl _ _).drew
 have KL := hF.lab (h.below bd) I.x hx.x32
 obtain ⟨rr, hrr⟩ : ∃ rr, rr = onNullM k f I.x := ⟨_, rfl⟩
 have HR : Aside0 (rr = if er ≠ 0 then (er, k) else if pe ≠ 0 then (pe, kp) else if se ≠ 0 then (se, backM kp k.ops.length x) else (0, { ks with ops := ks.ops ++ [{ x with f1 := false }] })) := ⟨by rw [hrr]; unfold onNullM; rw [hr, hpr]; dsimp only; rw [hsw]⟩
 have HPF : Aside0 (pe = 0 → Fit kp f) := ⟨fun e => by have h_ := hF.popRef (by rw [hpr]; exact e); rw [hpr] at h_; exact h_⟩
 have HPR := Aside0.mk hpr
 have HSW := Aside0.mk hsw
 rw [← hrr]
 rw [hr] at KL hll
 clear hrr hsw hpr
 have H := Aside0.mk h
 have HF := Aside0.mk hF
 have HK := Aside0.mk hk
 have HL := Aside0.mk hll
 have BD := Aside0.mk bd
 have hkd := hk.below bd
 have z9 : w.drew.cell? ⟨kb, 9, none⟩ = some (.pointer (some ⟨g, 0, none⟩)) := (blk_cell hkd.box 9).trans rfl
 have z11 : w.drew.cell? ⟨kb, 11, none⟩ = some (.int .u32 I.x) := (blk_cell hkd.box 11).trans rfl
 have HE : Aside0 (er = 0 ∨ er ≠ 0) := ⟨Decidable.em _⟩
 clear h hF hk hx hr hll bd hkd
 go_enter Tryz.func97, Tryz.ntmps97
 go_wp2_with fail
 obtain ⟨w2, hw2⟩ : ∃ w2, World.drew w = w2 := ⟨_, rfl⟩
 rw [hw2] at KL BD z9 z11
 refine start_ (n := 15) (S := fun w' => w'.cell? ⟨kb, 9, none⟩ = some (.pointer (some ⟨g, 0, none⟩)) ∧ w'.cell? ⟨kb, 11, none⟩ = some (.int .u32 I.x)) (ds := []) (bm_ 15 0) (by kernel_rfl) rfl rfl ⟨(by rw [hw2]; exact z9), (by rw [hw2]; exact z11)⟩ (fun hHeld => ?_)
 rw [hw2] at hHeld ⊢
 clear hw2 z9 z11
 refine pz_ 0 8 15 1 ?_
 refine pz_ 1 9 15 3 ?_
 refine pz_ 2 10 15 7 ?_
 refine pz_ 4 12 15 23 ?_
 refine pz_ 5 13 15 55 ?_
 refine pz_ 6 14 15 119 ?_
 refine pz_ 7 15 15 247 ?_
 refine tz_ 3 11 15 255 hHeld ?_
 refine tz_ 8 16 15 511 hHeld ?_
 refine oz_ 9 17 15 1023 fun K hK => ?_
 refine gz_ Tryz.func78 #[.pointer (some ⟨g, 0, none⟩), .int .u32 I.x] ?_
 with_reducible refine (KL).mono ?_
 rintro e w3 ⟨v, rfl, hl, hb⟩
 obtain ⟨A, c, rfl⟩ := hl.slice
 have HL3 := Aside0.mk hl
 have B3 := Aside0.mk (BD.out.trans (hb.mono BD.out.size))
 have HB := Aside0.mk hb
 clear hl hb
 refine ⟨_, rfl, ?_⟩
 refine hK.out _ _ ⟨HB.out.kp hHeld.1, HB.out.kp hHeld.2⟩ (fun hHeld => ?_)
 clear hK K
 refine nz_ ?_
 refine pz_ 10 7 15 2047 ?_
 refine pz_ 11 18 15 4095 ?_
 refine pz_ 12 19 15 8191 ?_
 refine pz_ 13 3 15 16383 ?_
 refine pz_ 14 4 15 32767 ?_
 refine dz_ ?_

 clear KL
 rcases HE.out with he | he
 ·subst he
  clear HE
  have H3 := H.out.below B3.out
  have K3 := Aside0.mk (HK.out.below B3.out)
  have KH := kHeight_calls H3
  have KP := vpopRef_calls H3 HF.out K3.out
  rw [HPR.out] at KP
  dsimp only at KP
  have z9 := K3.out.pc
  have H3 := Aside0.mk H3
  have HE2 : Aside0 (pe = 0 ∨ pe ≠ 0) := ⟨Decidable.em _⟩
  obtain ⟨m, hm⟩ : ∃ m, m = k.ops.length := ⟨_, rfl⟩
  have HM := Aside0.mk hm
  rw [← hm] at KH
  clear hm
  go_wp2_with fail
  refine KH.mono ?_
  rintro e w3 ⟨rfl, rfl⟩
  clear KH z9
  go_wp2_with fail
  refine KP.mono ?_
  rintro e w4 ⟨rfl, S4, q4⟩
  have Q4 := Aside0.mk q4
  clear KP q4
  rcases HE2.out with he2 | he2
  ·subst he2
   clear HE2
   have hFp := HPF.out rfl
   have b5 : Below w4.heap.size w4 (w4.alloc (.cells #[.int .i64 x.f0, .bool x.f1, .int .i64 x.f2] 39)) := bz_
   obtain ⟨w5, hw5⟩ : ∃ w5, w5 = w4.alloc (.cells #[.int .i64 x.f0, .bool x.f1, .int .i64 x.f2] 39) := ⟨_, rfl⟩
   have q5 : w5.heap[w4.heap.size]? = some (.cells #[.int .i64 x.f0, .bool x.f1, .int .i64 x.f2] 39 (0, 0)) := by rw [hw5]; exact blk_new w4 _
   rw [← hw5] at b5
   have H5 := Q4.out.st.more b5 (Nat.le_refl _) (blk_lt q5)
   have hk4 := K3.out.kst Q4.out
   have K5 : Aside0 (KI w1 (fun y => D y ∨ y = w4.heap.size) S4 kb g X I w5) := ⟨⟨(hk4.below b5).box, (hk4.below b5).bel, fun y e => e.elim (fun e => hk4.nw y (.inl e)) (fun e => e.elim (fun e => hk4.nw y (.inr e)) (fun e => by rw [e]; exact hk4.bel.size)), hk4.nS⟩⟩
   have l5 : LK k39 (fun y => S4 y ∨ (D y ∨ y = w4.heap.size)) w5 (.slice A l.length c) l := (HL3.out.kst Q4.out).to (Chg.of_below b5 (fun _ => False)) (fun _ e => e.elim) (fun y e => e.elim (fun e => .inl (.inl e)) (fun e => e.elim (fun e => .inl (.inr e)) (fun e => .inr (by rw [e]; exact Nat.le_refl _))))
   have KS := vswap_calls H5 hFp l5 l5 (by have := HL.out; omega) (by have := HL.out; omega)
   rw [HSW.out] at KS
   have z9a : (w4.alloc (.cells #[.int .i64 x.f0, .bool x.f1, .int .i64 x.f2] 39)).cell? ⟨kb, 9, none⟩ = some (.pointer (some ⟨g, 0, none⟩)) := by rw [← hw5]; exact K5.out.pc
   have Q5 := Aside0.mk q5
   have B5 := Aside0.mk b5
   have HFP := Aside0.mk hFp
   have SL : Aside0 (∀ y, S4 y → y < w4.heap.size) := ⟨fun y e => Q4.out.st.lt y (.inl e)⟩
   have HE3 : Aside0 (se = 0 ∨ se ≠ 0) := ⟨Decidable.em _⟩
   have KBL : Aside0 (kb < w4.heap.size) := ⟨blk_lt hk4.box⟩
   clear H5 hk4 l5 q5 b5 hFp
   go_wp2_with fail
   rw [← hw5]
   clear z9a hw5
   unfold SOut at KS
   refine KS.mono ?_
   rintro e w6 ⟨rfl, S6, q6⟩
   have Q6 := Aside0.mk q6
   have q7 := q6.chg.blk Q5.out (fun e => by have := SL.out _ e; omega)
   have Q7 := Aside0.mk q7
   have x0 : w6.cell? ⟨w4.heap.size, 0, none⟩ = some (.int .i64 x.f0) := (blk_cell q7 0).trans rfl
   have x1 : w6.cell? ⟨w4.heap.size, 1, none⟩ = some (.bool x.f1) := (blk_cell q7 1).trans rfl
   have x2 : w6.cell? ⟨w4.heap.size, 2, none⟩ = some (.int .i64 x.f2) := (blk_cell q7 2).trans rfl
   have fz : w6.frozen? ⟨w4.heap.size, 1, none⟩ = false := blk_frozen q7 1
   clear KS q6 q7
   dsimp only
   rcases HE3.out with he3 | he3
   ·subst he3
    have HR2 : Aside0 (rr = (0, { ks with ops := ks.ops ++ [{ x with f1 := false }] })) := ⟨by rw [HR.out, if_neg (by simp), if_neg (by simp), if_neg (by simp)]⟩
    clear HR HPF HE3
    go_wp2_with fail
    obtain ⟨w8, hw8⟩ : ∃ w8, World.drew (w6.setCell ⟨w4.heap.size, 1, none⟩ (.bool false)) = w8 := ⟨_, rfl⟩
    have c8 : Chg (fun y => y = w4.heap.size) w6 w8 := by
     rw [← hw8]
     exact (chg_set w6 w4.heap.size 1 _).trans (Chg.of_below (Below.refl _ _).drew (fun _ => False)) (fun _ e => .inl e) (fun _ e => e.elim)
    have H8 := Q6.out.st.chg c8 (fun _ e => .inl (.inr e))
    have hsl := swapM_len HFP.out HL.out HL.out
    rw [HSW.out] at hsl
    dsimp only at hsl
    have KP2 := kPush_calls H8 { x with f1 := false } (by rw [hsl.2]; exact HFP.out.pos) (by have := hsl.1; omega)
    have z9 : w8.cell? ⟨kb, 9, none⟩ = some (.pointer (some ⟨g, 0, none⟩)) := (blk_cell (c8.blk (K5.out.kst Q6.out).box (fun e => by have := KBL.out; omega)) 9).trans rfl
    have q8 : w8.heap[w4.heap.size]? = some (.cells #[.int .i64 x.f0, .bool false, .int .i64 x.f2] 39 (0, 0)) := by
     rw [← hw8]
     have h_ := blk_set Q7.out 1 (.bool false)
     have h2_ : (w6.setCell ⟨w4.heap.size, 1, none⟩ (.bool false)).heap[w4.heap.size]? = some (.cells #[.int .i64 x.f0, .bool false, .int .i64 x.f2] 39 (0, 0)) := by simpa using h_
     exact h2_
    have x0 : w8.cell? ⟨w4.heap.size, 0, none⟩ = some (.int .i64 x.f0) := (blk_cell q8 0).trans rfl
    have x1 : w8.cell? ⟨w4.heap.size, 1, none⟩ = some (.bool false) := (blk_cell q8 1).trans rfl
    have x2 : w8.cell? ⟨w4.heap.size, 2, none⟩ = some (.int .i64 x.f2) := (blk_cell q8 2).trans rfl
    have C8 := Aside0.mk c8
    clear c8 H8 hsl q8 fz
    dsimp only at KP2
    refine start_ (n := 7) (S := fun w' => w'.cell? ⟨kb, 9, none⟩ = some (.pointer (some ⟨g, 0, none⟩)) ∧ w'.cell? ⟨w4.heap.size, 0, none⟩ = some (.int .i64 x.f0) ∧ w'.cell? ⟨w4.heap.size, 1, none⟩ = some (.bool false) ∧ w'.cell? ⟨w4.heap.size, 2, none⟩ = some (.int .i64 x.f2)) (ds := [5]) (bm_ 7 0) (by kernel_rfl) rfl rfl ⟨(by rw [hw8]; exact z9), (by rw [hw8]; exact x0), (by rw [hw8]; exact x1), (by rw [hw8]; exact x2)⟩ (fun hHeld => ?_)
    rw [hw8] at hHeld ⊢
    clear hw8 z9 x0 x1 x2
    refine pz_ 0 51 7 1 ?_
    refine pz_ 1 52 7 3 ?_
    refine pz_ 2 53 7 7 ?_
    refine tz_ 3 54 7 15 hHeld ?_
    refine tz_ 4 55 7 31 hHeld ?_
    refine lz_ 5 56 7 63 fun K hK => ?_
    refine gz_ Tryz.func40 #[.pointer (some ⟨g, 0, none⟩), .agg #[.int .i64 x.f0, .bool false, .int .i64 x.f2]] ?_
    with_reducible refine (KP2).mono ?_
    rintro e w9 ⟨rfl, S9, q9⟩
    have Q9 := Aside0.mk q9
    clear q9
    refine ⟨_, rfl, ?_⟩
    refine hK.out _ _ ?_
    clear hK K
    refine nz_ ?_
    refine pz_ 6 2 7 127 ?_
    refine dz_ ?_

    go_wp2_with fail
    go_ret
    rw [HR2.out]
    refine ⟨rfl, S9, (Q4.out.ahead B3.out).trans ⟨fun y e => Q9.out.sub y (Q6.out.sub y e), fun y e => (Q9.out.grow y e).elim (fun e => (Q6.out.grow y e).imp id (fun l => Nat.le_trans B5.out.size l)) (fun l => .inr (Nat.le_trans (Nat.le_trans (Nat.le_trans B5.out.size Q6.out.chg.size) C8.out.size) l)), Q9.out.st.less (fun y e => .inl e), ?_⟩⟩
    have e1 : Chg S4 w4 w6 := (Chg.of_below B5.out S4).trans Q6.out.chg (fun _ e => .inl e) (fun _ e => .inl e)
    have e2 : Chg S4 w4 w8 := e1.trans C8.out (fun _ e => .inl e) (fun y e => .inr (by rw [e]; exact Nat.le_refl _))
    exact e2.trans Q9.out.chg (fun _ e => .inl e) (fun y e => (Q6.out.grow y e).imp id (fun l => Nat.le_trans B5.out.size l))
   ·have HR2 : Aside0 (rr = (se, backM kp k.ops.length x)) := ⟨by rw [HR.out, if_neg (by simp), if_neg (by simp), if_pos he3]⟩
    have g0 : (se == 0) = false := beq_eq_false_iff_ne.mpr he3
    have g1 : (se != 0) = true := bne_iff_ne.mpr he3
    have hkp : ks = kp := by have h_ := swapM_bad (k := kp) (f := f) (l1 := l) (l2 := l) (by rw [HSW.out]; exact he3); rw [HSW.out] at h_; exact h_
    subst hkp
    have KB := vback_calls Q6.out.st HFP.out (K5.out.kst Q6.out) m x se (by rw [HM.out]; have := HF.out.ops; omega)
    clear HR HPF HE3 he3 fz
    go_wp2_with fail
    refine KB.mono ?_
    rintro e w9 ⟨rfl, S9, q9⟩
    have Q9 := Aside0.mk q9
    clear KB q9
    go_wp2_with fail
    go_ret
    rw [HR2.out, ← HM.out]
    refine ⟨rfl, S9, (Q4.out.ahead B3.out).trans ⟨fun y e => Q9.out.sub y (Q6.out.sub y e), fun y e => (Q9.out.grow y e).elim (fun e => (Q6.out.grow y e).imp id (fun l => Nat.le_trans B5.out.size l)) (fun l => .inr (Nat.le_trans (Nat.le_trans B5.out.size Q6.out.chg.size) l)), Q9.out.st.less (fun y e => .inl e), ?_⟩⟩
    have e1 : Chg S4 w4 w6 := (Chg.of_below B5.out S4).trans Q6.out.chg (fun _ e => .inl e) (fun _ e => .inl e)
    exact e1.trans Q9.out.chg (fun _ e => .inl e) (fun y e => (Q6.out.grow y e).imp id (fun l => Nat.le_trans B5.out.size l))
  ·have HR2 : Aside0 (rr = (pe, kp)) := ⟨by rw [HR.out, if_neg (by simp), if_pos he2]⟩
   have g0 : (pe == 0) = false := beq_eq_false_iff_ne.mpr he2
   have g1 : (pe != 0) = true := bne_iff_ne.mpr he2
   clear he2 HE2 HR HPF
   go_wp2_with fail
   go_ret
   rw [HR2.out]
   exact ⟨rfl, S4, (Q4.out.ahead B3.out).below (bz_)⟩
 ·have HR2 : Aside0 (rr = (er, k)) := ⟨by rw [HR.out, if_pos he]⟩
  have g0 : (er == 0) = false := beq_eq_false_iff_ne.mpr he
  have g1 : (er != 0) = true := bne_iff_ne.mpr he
  clear he HR HPF
  go_wp2_with fail
  go_ret
  rw [HR2.out]
  exact ⟨rfl, S, (Kst.refl H.out).below B3.out⟩
end
section
variable {w1 w w' : World} {D S S' : Nat → Prop} {kb g : Nat} {X : CX} {I : IX} {k k' : Chk} {f : Fr}
theorem vnone_calls (h : St D S g k w) (hF : Fit k f) : Calls Tryz.prog 36 #[.pointer (some ⟨g, 0, none⟩)] w (KOut D S g k (.bool false) w) := by
 have K : Calls Tryz.prog 33 #[.pointer (some ⟨g, 0, none⟩), .slice none 0 0] w (KOut D S g { k with ops := k.ops ++ [] } (.int .i64 0) w) :=
  kPushes_calls h (A := none) (c := 0) (l := []) (LK.nil _ _ _) hF.pos (by have := hF.ops; simp; omega)
 rw [List.append_nil] at K
 clear h hF
 go_enter Tryz.func36, Tryz.ntmps36
 go_wp2_with fail
 refine K.mono ?_
 rintro e w2 ⟨rfl, hq⟩
 clear K
 go_wp2_with fail
 go_ret
 exact ⟨rfl, hq⟩
end
/-- An element of the map of steps: itself. -/
def RH (v : Value) : Option (DataW Value × List MemPlace) := some (.held v, [])
structure MH (w : World) (n : Nat) (D : DataW Value) (W : World) : Prop where
 own : W.ownsMap Tryz.prog 3 RH w.heap.size n D
 bel : Below w.heap.size w W
theorem wpList_insert_mh {w W : World} {ops : Array Oper} {rest : List Oper} {o : Oper} {a : Act} {Q : Exit → Act → World → Prop} {n : Nat} {D : DataW Value} (h : MH w n D W) (hg : o.guard = none) (m : Operand) (x : Int) (v : Operand)
  (hop : o.op = Op.insert 113 m (.const (.int .i64 x)) v) (hm : a.eval m = .map (some w.heap.size)) (hn : n < maxLen) (hx : (Lit.int .i64 x).wf = true)
  (hK : ∀ w', MH w (n + 1) (D.put (.int .i64 x) (.held (a.eval v))) w' → wpList Tryz.prog ops Q rest (a.put o.dst undef) w') :
  wpList Tryz.prog ops Q (o :: rest) a W := by
 refine wpList_plain hg fun K' hK' => ?_
 obtain ⟨w', hrun, r1, r2⟩ := h.own.update keyLaw Tryz.underlying113 hn (keyOf_int_mk Tryz.underlying3 hx) (val := a.eval v) (d := .held (a.eval v)) (ps := []) rfl
 unfold Oper.wp
 have hx' : a.eval (.const (.int .i64 x)) = .int .i64 x := rfl
 simp [execOp, hop, hm, hx', hrun, Result.andThen]
 exact hK' _ _ (hK w' ⟨r1, h.bel.trans ⟨r2.os, r2.tape, r2.output, r2.size, fun k hk => r2.block k (Nat.lt_of_lt_of_le hk h.bel.size) (by intro e; injection e with e; omega)⟩⟩)
/-- The steps. -/
def fnv (n : Nat) : Value := (⟨#[], []⟩ : Act).eval (Operand.func n)
def STEPS : List (Int × Nat) := [(0, 87), (1, 88), (8, 89), (10, 90), (12, 91), (13, 92), (14, 93), (15, 94), (16, 95), (17, 95), (18, 96), (19, 96), (20, 95), (21, 96), (213, 97), (214, 98)]
def DH : DataW Value := STEPS.foldl (fun D p => D.put (.int .i64 p.1) (.held (fnv p.2))) (.map [])
set_option maxHeartbeats 4000000 in
theorem vSteps_held (w : World) : Calls Tryz.prog 52 #[] w fun e w' => e = .returned (.map (some w.heap.size)) ∧ MH w 16 DH w' := by
 have hmm := @run_makeMap Tryz.prog
 have M0 : MH w 0 (.map []) (w.alloc (.map #[] 0)) := ⟨World.ownsMap_made w _ _ _, bz_⟩
 go_enter Tryz.func52, Tryz.ntmps52
 go_wp2_with (refine wpList_insert_mh (w := w) (by assumption) rfl (.tmp 1) _ _ rfl rfl (by decide) (by decide) ?_; intro w2 hM2)
 go_ret
 refine ⟨rfl, ?_⟩
 exact hM2
theorem dh_eq : DH = .map (STEPS.map fun p => ((.int .i64 p.1 : Lit), .held (fnv p.2))) := by rfl
theorem dh_at (op : Int) (n : Nat) (h : (op, n) ∈ STEPS) (zd : DataW Value) : DH.atKey (.int .i64 op) zd = .held (fnv n) ∧ Maps.has DH (.int .i64 op) = true := by
 simp only [STEPS, List.mem_cons, Prod.mk.injEq, List.not_mem_nil, or_false] at h
 rcases h with ⟨rfl, rfl⟩ | ⟨rfl, rfl⟩ | ⟨rfl, rfl⟩ | ⟨rfl, rfl⟩ | ⟨rfl, rfl⟩ | ⟨rfl, rfl⟩ | ⟨rfl, rfl⟩ | ⟨rfl, rfl⟩ | ⟨rfl, rfl⟩ | ⟨rfl, rfl⟩ | ⟨rfl, rfl⟩ | ⟨rfl, rfl⟩ | ⟨rfl, rfl⟩ | ⟨rfl, rfl⟩ | ⟨rfl, rfl⟩ | ⟨rfl, rfl⟩ <;> exact ⟨rfl, rfl⟩
theorem step_zero (W : World) : (zeroValue 111).run Tryz.prog W = .ok .nilFunc W := by kernel_rfl
theorem step_wf {op : Int} {n : Nat} (h : (op, n) ∈ STEPS) : (Lit.int .i64 op).wf = true := by
 simp only [STEPS, List.mem_cons, Prod.mk.injEq, List.not_mem_nil, or_false] at h
 rcases h with ⟨rfl, rfl⟩ | ⟨rfl, rfl⟩ | ⟨rfl, rfl⟩ | ⟨rfl, rfl⟩ | ⟨rfl, rfl⟩ | ⟨rfl, rfl⟩ | ⟨rfl, rfl⟩ | ⟨rfl, rfl⟩ | ⟨rfl, rfl⟩ | ⟨rfl, rfl⟩ | ⟨rfl, rfl⟩ | ⟨rfl, rfl⟩ | ⟨rfl, rfl⟩ | ⟨rfl, rfl⟩ | ⟨rfl, rfl⟩ | ⟨rfl, rfl⟩ <;> decide
theorem step_look {w W : World} (h : MH w 16 DH W) (op : Int) (hw : (Lit.int .i64 op).wf = true) : ∃ v ps, (Instr.lookup 113 (.map (some w.heap.size)) (.int .i64 op) true).run Tryz.prog W = .ok (.tuple #[v, .bool (Maps.has DH (.int .i64 op))]) W ∧ RH v = some (DH.atKey (.int .i64 op) (.held .nilFunc), ps) :=
 h.own.look_ok keyLaw Tryz.underlying113 (step_zero W) (zd := .held .nilFunc) (zp := []) rfl (keyOf_int_mk Tryz.underlying3 hw)
/-- A lookup of an opcode that is there. -/
theorem step_yes {w W : World} (h : MH w 16 DH W) {op : Int} {n : Nat} (hm : (op, n) ∈ STEPS) : (Instr.lookup 113 (.map (some w.heap.size)) (.int .i64 op) true).run Tryz.prog W = .ok (.tuple #[fnv n, .bool true]) W := by
 obtain ⟨v, ps, h1, h2⟩ := step_look h op (step_wf hm)
 obtain ⟨h3, h4⟩ := dh_at op n hm (.held .nilFunc)
 rw [h3] at h2
 rw [h4] at h1
 unfold RH at h2
 simp only [Option.some.injEq, Prod.mk.injEq, DataW.held.injEq] at h2
 rw [h2.1] at h1
 exact h1
theorem step_no {w W : World} (h : MH w 16 DH W) {op : Int} (hw : (Lit.int .i64 op).wf = true) (hno : ∀ n, (op, n) ∉ STEPS) : ∃ v, (Instr.lookup 113 (.map (some w.heap.size)) (.int .i64 op) true).run Tryz.prog W = .ok (.tuple #[v, .bool false]) W := by
 obtain ⟨v, ps, h1, _⟩ := step_look h op hw
 have h2 : Maps.has DH (.int .i64 op) = false := by
  rw [dh_eq]
  unfold Maps.has
  rw [List.any_eq_false]
  intro p hp
  obtain ⟨q, hq, rfl⟩ := List.mem_map.1 hp
  have hne : ¬ q.1 = op := fun e => hno q.2 (by rw [← e]; exact hq)
  simp [Lit.sameKey, hne]
 rw [h2] at h1
 exact ⟨v, h1⟩
theorem popM_dead : popM 0 true [] = (0, v0, []) := rfl
theorem popTM_dead (l : List S132) (v : S39) : popTM l 0 true [] v = (0, v0, []) := by
 unfold popTM
 rw [popM_dead]
 have hm : matM l v0 v = true := by unfold matM; simp [v0]
 simp [hm]
theorem popsR_dead (l : List S132) (vs : List S39) : popsR l 0 true vs [] = (0, []) := by
 induction vs with
 | nil => rfl
 | cons v vs ih =>
  unfold popsR
  rw [popTM_dead]
  simpa using ih
theorem popsM_dead (l : List S132) (vs : List S39) : popsM l 0 true vs [] = (0, []) := by
 unfold popsM
 rw [popsR_dead]
 simp
section
variable {k k1 : Chk} {f f1 : Fr} (h0 : f.height = 0) (hd : f.dead = true) (ho : k.ops = [])
include h0 hd ho
theorem awayM_dead (l : List S39) : (awayM k f l).1 = 0 := by
 unfold awayM
 rw [h0, hd, ho, popsM_dead]
 rfl
theorem swapM_dead (l1 l2 : List S39) : (swapM k f l1 l2).1 = 0 := by
 unfold swapM
 rw [h0, hd, ho, popsM_dead]
 rfl
theorem popRefM_dead : popRefM k f = (0, v0, { k with ops := [] }) := by
 unfold popRefM
 rw [h0, hd, ho, popM_dead]
 rfl
/-- Each step that goes with some operands goes with none where it is not reached: what does not look at operands is alike. -/
theorem brM_dead (n : Nat) (hl : labM k.frames n = labM k1.frames n) (h : (brM k1 f1 n).1 = 0) : (brM k f n).1 = 0 := by
 unfold brM at h ⊢
 rw [hl]
 by_cases he : (labM k1.frames n).1 = 0
 ·rw [if_pos he]
  exact awayM_dead h0 hd ho _
 ·rw [if_neg he] at h
  exact absurd h he
theorem brIfM_dead (n : Nat) (hl : labM k.frames n = labM k1.frames n) (h : (brIfM k1 f1 n).1 = 0) : (brIfM k f n).1 = 0 := by
 unfold brIfM at h ⊢
 rw [hl]
 by_cases he : (labM k1.frames n).1 = 0
 ·rw [if_pos he]
  exact swapM_dead h0 hd ho _ _
 ·rw [if_neg he] at h
  exact absurd h he
theorem throwM_dead (X : CX) (n : Nat) (h : (throwM X k1 f1 n).1 = 0) : (throwM X k f n).1 = 0 := by
 unfold throwM at h ⊢
 by_cases he : (tagM X n).1 = 0
 ·rw [if_pos he]
  exact awayM_dead h0 hd ho _
 ·rw [if_neg he] at h
  exact absurd h he
theorem onNullM_dead (n : Nat) (hl : labM k.frames n = labM k1.frames n) (h : (onNullM k1 f1 n).1 = 0) : (onNullM k f n).1 = 0 := by
 unfold onNullM at h ⊢
 rw [hl, popRefM_dead h0 hd ho]
 by_cases he : (labM k1.frames n).1 = 0
 ·rw [if_neg (by simp [he]), if_neg (by simp)]
  have hs : (swapM { k with ops := [] } f (labM k1.frames n).2 (labM k1.frames n).2).1 = 0 := swapM_dead (k := { k with ops := [] }) h0 hd rfl _ _
  rw [if_neg (by simpa using hs)]
 ·rw [if_pos he] at h
  exact absurd h he
end
/-- The label's list does not hang on what is reached. -/
theorem labM_kill (xs : List Fr) (n : Nat) : labM (killL xs) n = labM xs n := by
 unfold killL
 split
 ·rename_i f hf
  unfold labM
  simp only [List.length_set]
  split
  ·rename_i hn
   by_cases e : xs.length - 1 = xs.length - 1 - n
   ·have hx : xs[xs.length - 1 - n] = f := by
     have h1 := (List.getElem?_eq_some_iff.1 hf).2
     simp only [← e]
     exact h1
    simp only [List.getElem_set, if_pos e, hx]
   ·simp only [List.getElem_set, if_neg e]
  ·rfl
 ·rfl
variable {k : Chk} {f : Fr}
theorem set_last {α : Type} (xs : List α) (x : α) (h : 0 < xs.length) : (xs.set (xs.length - 1) x)[(xs.set (xs.length - 1) x).length - 1]? = some x := by
 rw [List.length_set, List.getElem?_set_self (by omega)]
end Go.Proofs.YtohlmkcgempdlaaGreatDoor.Cn
namespace Go.Proofs.YtohlmkcgempdlaaGreatDoor.Cn
set_option linter.unusedSimpArgs false
set_option maxRecDepth 100000
set_option linter.unusedVariables false
open Go.RowKit Go.Maps Go.Proofs.YtohlmkcgempdlaaGreatDoorW.PrintWords Go.Proofs.YtohlmkcgempdlaaGreatDoorW.PrintLast Go.Proofs.YtohlmkcgempdlaaGreatDoorW.PrintMore Go.Proofs.YtohlmkcgempdlaaGreatDoor.QD
theorem popM_pre (h : Nat) (d : Bool) (ops : List S39) : (popM h d ops).2.2 <+: ops := by
 unfold popM
 split
 ·exact List.dropLast_prefix ops
 ·split <;> exact List.prefix_refl ops
theorem popTM_pre (l : List S132) (h : Nat) (d : Bool) (ops : List S39) (v : S39) : (popTM l h d ops v).2.2 <+: ops := by
 unfold popTM
 split
 ·exact List.prefix_refl ops
 ·split
  ·exact popM_pre h d ops
  ·exact List.prefix_refl ops
theorem popsR_pre (l : List S132) (h : Nat) (d : Bool) (vs : List S39) : ∀ ops, (popsR l h d vs ops).2 <+: ops := by
 induction vs with
 | nil => exact fun ops => List.prefix_refl ops
 | cons v vs ih =>
  intro ops
  unfold popsR
  split
  ·exact (ih _).trans (popTM_pre l h d ops v)
  ·exact List.prefix_refl ops
theorem popsM_pre (l : List S132) (h : Nat) (d : Bool) (vs ops : List S39) : (popsM l h d vs ops).2 <+: ops := by
 unfold popsM
 split
 ·exact popsR_pre l h d _ ops
 ·exact List.prefix_refl ops
theorem pops_back {l : List S132} {h : Nat} {d : Bool} {vs ops o' : List S39} {er : Int} (hp : popsM l h d vs ops = (er, o')) : o' ++ ops.drop o'.length = ops := by
 have h1 := popsM_pre l h d vs ops
 rw [hp] at h1
 exact List.prefix_iff_eq_append.1 h1
/-- What a call takes and answers. -/
noncomputable def calledM (X : CX) (I : IX) : Int × List S39 × List S39 :=
 if I.op = 16 ∨ I.op = 18 then
  match X.l1[I.x]? with
  | some n => ((ftV X.l0 n).2.2, (ftV X.l0 n).1, (ftV X.l0 n).2.1)
  | none => (150, [], [])
 else if I.op = 17 ∨ I.op = 19 then
  match X.l2[I.y]? with
  | some t => if valM X.l0 t.f0 ⟨5, true, -1⟩ then ((ftV X.l0 (I.x : Int)).2.2, (ftV X.l0 (I.x : Int)).1 ++ [⟨if t.f1.f0 then 2 else 1, false, 0⟩], (ftV X.l0 (I.x : Int)).2.1) else (131, [], [])
  | none => (150, [], [])
 else ((ftV X.l0 (I.x : Int)).2.2, (ftV X.l0 (I.x : Int)).1 ++ [⟨5, true, (I.x : Int)⟩], (ftV X.l0 (I.x : Int)).2.1)
noncomputable def callM (X : CX) (I : IX) (k : Chk) (f : Fr) : Int × Chk := if (calledM X I).1 = 0 then swapM k f (calledM X I).2.1 (calledM X I).2.2 else ((calledM X I).1, k)
noncomputable def tailM (X : CX) (I : IX) (k : Chk) (f : Fr) : Int × Chk :=
 if (calledM X I).1 = 0 then (if valsM X.l0 (calledM X I).2.2 k.results then awayM k f (calledM X I).2.1 else (131, k)) else ((calledM X I).1, k)
/-- br_on_non_null. -/
noncomputable def onNonNullM (X : CX) (k : Chk) (f : Fr) (n : Nat) : Int × Chk :=
 if (labM k.frames n).1 ≠ 0 then ((labM k.frames n).1, k)
 else if ((labM k.frames n).2.getLastD v0).f0 ≠ 5 then (131, k)
 else if (popRefM k f).1 ≠ 0 then ((popRefM k f).1, (popRefM k f).2.2)
 else if (popRefM k f).2.1.f0 = 5 ∧ valM X.l0 ⟨5, false, (popRefM k f).2.1.f2⟩ ((labM k.frames n).2.getLastD v0) = false then (131, backM (popRefM k f).2.2 k.ops.length (popRefM k f).2.1)
 else if (swapM (popRefM k f).2.2 f (labM k.frames n).2.dropLast (labM k.frames n).2.dropLast).1 ≠ 0 then ((swapM (popRefM k f).2.2 f (labM k.frames n).2.dropLast (labM k.frames n).2.dropLast).1, backM (popRefM k f).2.2 k.ops.length (popRefM k f).2.1)
 else (0, (swapM (popRefM k f).2.2 f (labM k.frames n).2.dropLast (labM k.frames n).2.dropLast).2)
/-- The lists of several labels; the first that there isn't. -/
def labsM (fs : List Fr) : List Int → Int × List (List S39)
 | [] => (0, [])
 | n :: ns => if (labM fs n.toNat).1 ≠ 0 then ((labM fs n.toNat).1, []) else if (labsM fs ns).1 ≠ 0 then ((labsM fs ns).1, []) else (0, (labM fs n.toNat).2 :: (labsM fs ns).2)
/-- Each list goes with the operands, which stay. -/
noncomputable def tryM (k : Chk) (f : Fr) : List (List S39) → Int × Chk
 | [] => (0, unrM k f)
 | l :: ls => if (popsM k.l f.height f.dead (l ++ [i32T]) k.ops).1 = 0 then tryM k f ls else ((popsM k.l f.height f.dead (l ++ [i32T]) k.ops).1, k)
noncomputable def brTableM (k : Chk) (f : Fr) (n : Nat) (ns : List Int) : Int × Chk :=
 if (labM k.frames n).1 ≠ 0 then ((labM k.frames n).1, k)
 else if (labsM k.frames ns).1 ≠ 0 then ((labsM k.frames ns).1, k)
 else if ((labsM k.frames ns).2 ++ [(labM k.frames n).2]).all (fun l => l.length == (labM k.frames n).2.length) = false then (152, k)
 else tryM k f ((labsM k.frames ns).2 ++ [(labM k.frames n).2])
/-- Step. -/
noncomputable def stepM (X : CX) (I : IX) (k : Chk) (f : Fr) : Int × Chk :=
 if I.op = 0 then (0, unrM k f) else if I.op = 1 then (0, k) else if I.op = 8 then throwM X k f I.x else if I.op = 10 then awayM k f [⟨5, true, -11⟩]
 else if I.op = 12 then brM k f I.x else if I.op = 13 then brIfM k f I.x else if I.op = 14 then brTableM k f I.x I.ls else if I.op = 15 then awayM k f k.results
 else if I.op = 16 ∨ I.op = 17 ∨ I.op = 20 then callM X I k f else if I.op = 18 ∨ I.op = 19 ∨ I.op = 21 then tailM X I k f
 else if I.op = 213 then onNullM k f I.x else if I.op = 214 then onNonNullM X k f I.x else (6, k)
section
variable {k k1 : Chk} {f f1 : Fr} (h0 : f.height = 0) (hd : f.dead = true) (ho : k.ops = [])
include h0 hd ho
theorem callM_dead (X : CX) (I : IX) (h : (callM X I k1 f1).1 = 0) : (callM X I k f).1 = 0 := by
 unfold callM at h ⊢
 by_cases he : (calledM X I).1 = 0
 ·rw [if_pos he]
  exact swapM_dead h0 hd ho _ _
 ·rw [if_neg he] at h
  exact absurd h he
theorem tailM_dead (X : CX) (I : IX) (hr : k.results = k1.results) (h : (tailM X I k1 f1).1 = 0) : (tailM X I k f).1 = 0 := by
 unfold tailM at h ⊢
 rw [hr]
 by_cases he : (calledM X I).1 = 0
 ·rw [if_pos he] at h ⊢
  by_cases hv : valsM X.l0 (calledM X I).2.2 k1.results = true
  ·rw [if_pos hv]
   exact awayM_dead h0 hd ho _
  ·rw [if_neg hv] at h
   exact absurd (show (131 : Int) = 0 from h) (by decide)
 ·rw [if_neg he] at h
  exact absurd h he
theorem onNonNullM_dead (X : CX) (n : Nat) (hl : labM k.frames n = labM k1.frames n) (h : (onNonNullM X k1 f1 n).1 = 0) : (onNonNullM X k f n).1 = 0 := by
 unfold onNonNullM at h ⊢
 rw [hl, popRefM_dead h0 hd ho]
 by_cases he : (labM k1.frames n).1 = 0
 ·rw [if_neg (by simp [he])] at h ⊢
  by_cases h5 : ((labM k1.frames n).2.getLastD v0).f0 = 5
  ·rw [if_neg (fun h_ => h_ h5), if_neg (by simp), if_neg (by simp [v0])]
   have hs : (swapM { k with ops := [] } f (labM k1.frames n).2.dropLast (labM k1.frames n).2.dropLast).1 = 0 := swapM_dead (k := { k with ops := [] }) h0 hd rfl _ _
   rw [if_neg (by simpa using hs)]
  ·rw [if_pos h5] at h
   exact absurd (show (131 : Int) = 0 from h) (by decide)
 ·rw [if_pos he] at h
  exact absurd h he
theorem tryM_dead (ls : List (List S39)) : (tryM k f ls).1 = 0 := by
 induction ls with
 | nil => rfl
 | cons l ls ih =>
  unfold tryM
  rw [h0, hd, ho, popsM_dead, if_pos rfl]
  exact ih
omit h0 hd ho in
theorem labsM_eq {fs gs : List Fr} (h : ∀ n, labM fs n = labM gs n) (ns : List Int) : labsM fs ns = labsM gs ns := by
 induction ns with
 | nil => rfl
 | cons n ns ih =>
  unfold labsM
  rw [h, ih]
theorem brTableM_dead (n : Nat) (ns : List Int) (hl : ∀ n, labM k.frames n = labM k1.frames n) (h : (brTableM k1 f1 n ns).1 = 0) : (brTableM k f n ns).1 = 0 := by
 unfold brTableM at h ⊢
 rw [hl, labsM_eq hl]
 by_cases h1 : (labM k1.frames n).1 = 0
 ·rw [if_neg (by simp [h1])] at h ⊢
  by_cases h2 : (labsM k1.frames ns).1 = 0
  ·rw [if_neg (by simp [h2])] at h ⊢
   by_cases h3 : ((labsM k1.frames ns).2 ++ [(labM k1.frames n).2]).all (fun l => l.length == (labM k1.frames n).2.length) = false
   ·rw [if_pos h3] at h
    exact absurd (show (152 : Int) = 0 from h) (by decide)
   ·rw [if_neg h3]
    exact tryM_dead h0 hd ho _
  ·rw [if_pos h2] at h
   exact absurd h h2
 ·rw [if_pos h1] at h
  exact absurd h h1
/-- A step that goes with some operands goes with none where it is not reached. -/
theorem stepM_dead (X : CX) (I : IX) (hl : ∀ n, labM k.frames n = labM k1.frames n) (hr : k.results = k1.results) (h : (stepM X I k1 f1).1 = 0) : (stepM X I k f).1 = 0 := by
 unfold stepM at h ⊢
 by_cases c0 : I.op = 0
 ·rw [if_pos c0]
 rw [if_neg c0] at h ⊢
 by_cases c1 : I.op = 1
 ·rw [if_pos c1]
 rw [if_neg c1] at h ⊢
 by_cases c2 : I.op = 8
 ·rw [if_pos c2] at h ⊢; exact throwM_dead h0 hd ho X _ h
 rw [if_neg c2] at h ⊢
 by_cases c3 : I.op = 10
 ·rw [if_pos c3] at h ⊢; exact awayM_dead h0 hd ho _
 rw [if_neg c3] at h ⊢
 by_cases c4 : I.op = 12
 ·rw [if_pos c4] at h ⊢; exact brM_dead h0 hd ho _ (hl _) h
 rw [if_neg c4] at h ⊢
 by_cases c5 : I.op = 13
 ·rw [if_pos c5] at h ⊢; exact brIfM_dead h0 hd ho _ (hl _) h
 rw [if_neg c5] at h ⊢
 by_cases c6 : I.op = 14
 ·rw [if_pos c6] at h ⊢; exact brTableM_dead h0 hd ho _ _ hl h
 rw [if_neg c6] at h ⊢
 by_cases c7 : I.op = 15
 ·rw [if_pos c7] at h ⊢; exact awayM_dead h0 hd ho _
 rw [if_neg c7] at h ⊢
 by_cases c8 : I.op = 16 ∨ I.op = 17 ∨ I.op = 20
 ·rw [if_pos c8] at h ⊢; exact callM_dead h0 hd ho X I h
 rw [if_neg c8] at h ⊢
 by_cases c9 : I.op = 18 ∨ I.op = 19 ∨ I.op = 21
 ·rw [if_pos c9] at h ⊢; exact tailM_dead h0 hd ho X I hr h
 rw [if_neg c9] at h ⊢
 by_cases c10 : I.op = 213
 ·rw [if_pos c10] at h ⊢; exact onNullM_dead h0 hd ho _ (hl _) h
 rw [if_neg c10] at h ⊢
 by_cases c11 : I.op = 214
 ·rw [if_pos c11] at h ⊢; exact onNonNullM_dead h0 hd ho X _ (hl _) h
 rw [if_neg c11] at h ⊢
 exact absurd (show (6 : Int) = 0 from h) (by decide)
end
theorem results_cttt {P : Program} {fn : Func} {p u v y : Tmp} {ty : TypeId} (h : fn.results = #[.cell p ty, .tmp u, .tmp v, .tmp y]) (tmps : Array Value) (w : World) (g : Nat) (t : TypeId) (cs : Array Value) (fr : Nat × Nat) (d : TypeDesc)
  (hp : tmps.getD p undef = .pointer (some ⟨g, 0, none⟩)) (hg : w.heap[g]? = some (.cells cs t fr))
  (hu : P.underlying ty = some d) (hd : (match d with | .struct _ | .array _ _ => true | _ => false) = true) (hi : (P.info? ty).map (·.size) = some cs.size) :
  (results fn tmps).run P w = .ok (.tuple #[.agg cs, tmps.getD u undef, tmps.getD v undef, tmps.getD y undef]) w := by
 have hp' : tmps[p]?.getD undef = .pointer (some ⟨g, 0, none⟩) := by simpa using hp
 simp [results, h, hp', asAddr, run_loadVar_row w g t ty cs fr d hg hu hd hi]
/-- What called answers: something last, lists, an error. -/
def CalOut (S : Nat → Prop) (r : Int × List S39 × List S39) (w : World) (e : Ending) (w' : World) : Prop :=
 ∃ (x : S39) (v1 v2 : Value), e = .returned (.tuple #[.agg #[.int .i64 x.f0, .bool x.f1, .int .i64 x.f2], v1, v2, .int .i64 r.1]) ∧ LK k39 S w' v1 r.2.1 ∧ LK k39 S w' v2 r.2.2 ∧ Below w.heap.size w w'
theorem below_set3 {B : Nat} {w0 w : World} (h : Below B w0 w) {p : Nat} (hp : B ≤ p) (x0 x1 x2 : Value) : Below B w0 (((w.setCell ⟨p, 0, none⟩ x0).setCell ⟨p, 1, none⟩ x1).setCell ⟨p, 2, none⟩ x2) :=
 ((h.setCell hp _).setCell hp _).setCell hp _
theorem lk_set3 {α : Type} {d : Kd α} {F : Nat → Prop} {w : World} {v : Value} {xs : List α} (h : LK d F w v xs) {p : Nat} (hp : F p) (x0 x1 x2 : Value) : LK d F (((w.setCell ⟨p, 0, none⟩ x0).setCell ⟨p, 1, none⟩ x1).setCell ⟨p, 2, none⟩ x2) v xs :=
 h.to (set3_chg w p x0 x1 x2) (fun x e => .inl (by rw [e]; exact hp)) (fun _ e => .inl e)
def tCells (t : S214) : List Value := [.int .i64 t.f0.f0, .bool t.f0.f1, .int .i64 t.f0.f2, .bool t.f1.f0, .int .u64 t.f1.f1, .int .u64 t.f1.f2, .bool t.f1.f3]
theorem tt_at {w : World} {A : Option Addr} {n : Nat} {l : List S214} (h : Kd.C k214 w A n l) {j : Nat} {t : S214} (hj : l[j]? = some t) : ∃ ad, A = some ad ∧ w.cell? (ad.add (j * 7)) = some (.int .i64 t.f0.f0) ∧ ∀ i u, 0 < i → (tCells t)[i]? = some u → w.cell? ⟨(ad.add (j * 7)).block, (ad.add (j * 7)).off + i, none⟩ = some u := by
 have hjl := (List.getElem?_eq_some_iff.1 hj).1
 obtain ⟨a1, a2, a3⟩ := h
 obtain ⟨ad, e1, hc⟩ := a3 (by omega)
 obtain ⟨cs, h1, h2, h5⟩ := hc j t hj
 rw [k214_open h2] at h5
 refine ⟨ad, e1, ?_, fun i u hi hu => ?_⟩
 ·have := h5 0 _ rfl
  rw [Nat.add_zero] at this
  exact this
 ·have := h5 i u hu
  have e : (⟨(ad.add (j * 7)).block, (ad.add (j * 7)).off + i, none⟩ : Addr) = ad.add (j * k214.sz + i) := by
   show _ = ad.add (j * 7 + i)
   unfold Addr.add
   rw [if_neg (show ¬ j * 7 + i = 0 by omega)]
   by_cases h0 : j * 7 = 0
   ·simp [h0]
   ·simp only [if_neg h0, Nat.add_assoc]
  rw [e]
  exact this
section
variable {w1 w w' : World} {D S S' : Nat → Prop} {kb g : Nat} {X : CX} {I : IX} {k k' : Chk} {f : Fr}
set_option maxHeartbeats 8000000 in
theorem vcalled_f (h : St D S g k w) (hk : KI w1 D S kb g X I w) (hx : XK w1 X I) (hG : GOk X.l0) (hop : I.op = 16 ∨ I.op = 18) : Calls Tryz.prog 128 #[.pointer (some ⟨kb, 0, none⟩)] w (CalOut (fun x => S x ∨ D x) (calledM X I) w) := by
 obtain ⟨W, hW⟩ : ∃ W, W = (w.alloc (.cells #[.int .i64 0, .bool false, .int .i64 0] 39)).alloc (.cells #[.int .i64 0, .bool false, .int .i64 0] 39) := ⟨_, rfl⟩
 have b1 : Below w.heap.size w W := by rw [hW]; exact (bz_).alloc (by simp) _
 have hq0 : W.heap[w.heap.size]? = some (.cells #[.int .i64 0, .bool false, .int .i64 0] 39 (0, 0)) := by rw [hW]; exact blk_alloc (blk_new w _) _
 have hq1 : W.heap[w.heap.size + 1]? = some (.cells #[.int .i64 0, .bool false, .int .i64 0] 39 (0, 0)) := by rw [hW]; have h_ := blk_new (w.alloc (.cells #[.int .i64 0, .bool false, .int .i64 0] 39)) (.cells #[.int .i64 0, .bool false, .int .i64 0] 39); rw [World.size_alloc] at h_; exact h_
 have HQ := Aside0.mk (And.intro hq0 hq1)
 have H := Aside0.mk h
 have HK := Aside0.mk hk
 have HX := Aside0.mk hx
 have HG := Aside0.mk hG
 have B1 := Aside0.mk b1
 have HLT : Aside0 (∀ x, S x ∨ D x → x < w.heap.size) := ⟨h.lt⟩
 have z11 : (w.alloc (.cells #[.int .i64 0, .bool false, .int .i64 0] 39)).cell? ⟨kb, 11, none⟩ = some (.int .u32 I.x) := (blk_cell (hk.below (bz_)).box 11).trans rfl
 have z10 : ((w.alloc (.cells #[.int .i64 0, .bool false, .int .i64 0] 39)).alloc (.cells #[.int .i64 0, .bool false, .int .i64 0] 39)).cell? ⟨kb, 10, none⟩ = some (.int .i64 I.op) := by rw [← hW]; exact (blk_cell (hk.below b1).box 10).trans rfl
 have hwx : wrap64 (I.x : Int) = (I.x : Int) := wr4 I.x (by have := hx.x32; omega)
 have G : Aside0 ((I.op == 16) = true ∨ (I.op == 16) = false ∧ (I.op == 18) = true) := ⟨by rcases hop with h_ | h_ <;> simp [h_]⟩
 obtain ⟨rr, hrr⟩ : ∃ rr, rr = calledM X I := ⟨_, rfl⟩
 rw [← hrr]
 have HR : Aside0 ((∀ u, X.l1[I.x]? = some u → rr = ((ftV X.l0 u).2.2, (ftV X.l0 u).1, (ftV X.l0 u).2.1)) ∧ (X.l1[I.x]? = none → rr = (150, [], []))) := ⟨by rw [hrr]; unfold calledM; rw [if_pos hop]; exact ⟨fun u e => by rw [e], fun e => by rw [e]⟩⟩
 clear h hk hx hG b1 hq0 hq1 hrr hop
 rcases G.out with g0 | ⟨g0, g1⟩
 all_goals
  clear G
  go_enter Tryz.func128, Tryz.ntmps128
  go_wp2_with fail
  rw [← hW]
  clear hW z11 z10
  rcases Nat.lt_or_ge I.x X.l1.length with hlt | hge
  rotate_left
  ·have HR2 := Aside0.mk (HR.out.2 (List.getElem?_eq_none hge))
   have e1 : decide (I.x < X.l1.length) = false := decide_eq_false (by omega)
   clear HR hge
   rw [hwx]
   obtain ⟨w3, hw3⟩ : ∃ w3, World.drew W = w3 := ⟨_, rfl⟩
   have b3 : Below w.heap.size w w3 := by rw [← hw3]; exact B1.out.drew
   have B3 := Aside0.mk b3
   have KT := there_calls I.x X.l1.length HX.out.x32 w3
   have z0 : w3.cell? ⟨kb, 11, none⟩ = some (.int .u32 I.x) := (blk_cell (HK.out.below b3).box 11).trans rfl
   have z1 : w3.cell? ⟨kb, 1, none⟩ = some (.slice X.A1 X.l1.length X.c1) := (blk_cell (HK.out.below b3).box 1).trans rfl
   have HQ3 : Aside0 (w3.heap[w.heap.size]? = some (.cells #[.int .i64 0, .bool false, .int .i64 0] 39 (0, 0)) ∧ w3.heap[w.heap.size + 1]? = some (.cells #[.int .i64 0, .bool false, .int .i64 0] 39 (0, 0))) := ⟨by rw [← hw3]; exact HQ.out⟩
   clear b3 HQ
   refine start_ (n := 13) (S := fun w' => w'.cell? ⟨kb, 11, none⟩ = some (.int .u32 I.x) ∧ w'.cell? ⟨kb, 1, none⟩ = some (.slice X.A1 X.l1.length X.c1)) (ds := [11]) (bm_ 13 0) (by kernel_rfl) rfl rfl ⟨(by rw [hw3]; exact z0), (by rw [hw3]; exact z1)⟩ (fun hHeld => ?_)
   rw [hw3] at hHeld ⊢
   clear hw3 z0 z1
   refine pz_ 0 28 13 1 ?_
   refine pz_ 1 29 13 3 ?_
   refine pz_ 2 30 13 7 ?_
   refine pz_ 3 31 13 15 ?_
   refine pz_ 5 33 13 47 ?_
   refine pz_ 6 34 13 111 ?_
   refine pz_ 7 35 13 239 ?_
   refine pz_ 8 36 13 495 ?_
   refine tz_ 4 32 13 511 hHeld ?_
   refine tz_ 9 37 13 1023 hHeld ?_
   refine pz_ 10 38 13 2047 ?_
   refine lz_ 11 39 13 4095 fun K hK => ?_
   refine gz_ Tryz.func117 #[.int .u32 I.x, .int .i64 X.l1.length] ?_
   with_reducible refine (KT).mono ?_
   rintro e w4 ⟨rfl, hb⟩
   have B4 := Aside0.mk (B3.out.trans (hb.mono B3.out.size))
   have HQ4 := Aside0.mk (And.intro (blk_below HQ3.out.1 hb) (blk_below HQ3.out.2 hb))
   clear hb
   refine ⟨_, rfl, ?_⟩
   refine hK.out _ _ ?_
   clear hK K
   refine nz_ ?_
   refine pz_ 12 40 13 8191 ?_
   refine dz_ ?_
   clear KT HQ3
   rw [e1] at *
   have x0 : w4.cell? ⟨w.heap.size + 1, 0, none⟩ = some (.int .i64 0) := (blk_cell HQ4.out.2 0).trans rfl
   have x1 : w4.cell? ⟨w.heap.size + 1, 1, none⟩ = some (.bool false) := (blk_cell HQ4.out.2 1).trans rfl
   have x2 : w4.cell? ⟨w.heap.size + 1, 2, none⟩ = some (.int .i64 0) := (blk_cell HQ4.out.2 2).trans rfl
   have p0 : w4.cell? ⟨w.heap.size, 0, none⟩ = some (.int .i64 0) := (blk_cell HQ4.out.1 0).trans rfl
   have p1 : w4.cell? ⟨w.heap.size, 1, none⟩ = some (.bool false) := (blk_cell HQ4.out.1 1).trans rfl
   have p2 : w4.cell? ⟨w.heap.size, 2, none⟩ = some (.int .i64 0) := (blk_cell HQ4.out.1 2).trans rfl
   have f0 : w4.frozen? ⟨w.heap.size, 0, none⟩ = false := blk_frozen HQ4.out.1 0
   have f1 : w4.frozen? ⟨w.heap.size, 1, none⟩ = false := blk_frozen HQ4.out.1 1
   have f2 : w4.frozen? ⟨w.heap.size, 2, none⟩ = false := blk_frozen HQ4.out.1 2
   have lp : w.heap.size < w4.heap.size := blk_lt HQ4.out.1
   go_wp2_with fail
   refine bodyPost_ret (v := .tuple #[.agg #[.int .i64 0, .bool false, .int .i64 0], .slice none 0 0, .slice none 0 0, .int .i64 150]) ?_ rfl ?_
   ·exact results_cttt (p := 2) (u := 3) (v := 4) (y := 5) rfl _ _ w.heap.size 39 #[.int .i64 0, .bool false, .int .i64 0] (0, 0) _ rfl (set3_blk HQ4.out.1) Tryz.underlying39 rfl (by kernel_rfl)
   rw [HR2.out]
   exact ⟨v0, _, _, rfl, LK.nil _ _ _, LK.nil _ _ _, below_set3 B4.out (Nat.le_refl _) _ _ _⟩
  ·obtain ⟨u, hu⟩ : ∃ u, X.l1[I.x]? = some u := ⟨_, List.getElem?_eq_getElem hlt⟩
   have HR2 := Aside0.mk (HR.out.1 u hu)
   have e1 : decide (I.x < X.l1.length) = true := decide_eq_true hlt
   have hjn : (I.x : Int) < (X.l1.length : Int) := by omega
   have hj0 : (0 : Int) ≤ (I.x : Int) := Int.natCast_nonneg _
   obtain ⟨ad, eA, hc⟩ := int_at HX.out.xin.r1 hu
   have HU := Aside0.mk (HX.out.f64 u (List.mem_of_getElem? hu))
   have EA := Aside0.mk eA
   have HC := Aside0.mk hc
   clear HR hlt hu eA hc
   rw [hwx]
   obtain ⟨w3, hw3⟩ : ∃ w3, World.drew W = w3 := ⟨_, rfl⟩
   have b3 : Below w.heap.size w w3 := by rw [← hw3]; exact B1.out.drew
   have B3 := Aside0.mk b3
   have KT := there_calls I.x X.l1.length HX.out.x32 w3
   have z0 : w3.cell? ⟨kb, 11, none⟩ = some (.int .u32 I.x) := (blk_cell (HK.out.below b3).box 11).trans rfl
   have z1 : w3.cell? ⟨kb, 1, none⟩ = some (.slice X.A1 X.l1.length X.c1) := (blk_cell (HK.out.below b3).box 1).trans rfl
   have HQ3 : Aside0 (w3.heap[w.heap.size]? = some (.cells #[.int .i64 0, .bool false, .int .i64 0] 39 (0, 0)) ∧ w3.heap[w.heap.size + 1]? = some (.cells #[.int .i64 0, .bool false, .int .i64 0] 39 (0, 0))) := ⟨by rw [← hw3]; exact HQ.out⟩
   clear b3 HQ
   refine start_ (n := 13) (S := fun w' => w'.cell? ⟨kb, 11, none⟩ = some (.int .u32 I.x) ∧ w'.cell? ⟨kb, 1, none⟩ = some (.slice X.A1 X.l1.length X.c1)) (ds := [11]) (bm_ 13 0) (by kernel_rfl) rfl rfl ⟨(by rw [hw3]; exact z0), (by rw [hw3]; exact z1)⟩ (fun hHeld => ?_)
   rw [hw3] at hHeld ⊢
   clear hw3 z0 z1
   refine pz_ 0 28 13 1 ?_
   refine pz_ 1 29 13 3 ?_
   refine pz_ 2 30 13 7 ?_
   refine pz_ 3 31 13 15 ?_
   refine pz_ 5 33 13 47 ?_
   refine pz_ 6 34 13 111 ?_
   refine pz_ 7 35 13 239 ?_
   refine pz_ 8 36 13 495 ?_
   refine tz_ 4 32 13 511 hHeld ?_
   refine tz_ 9 37 13 1023 hHeld ?_
   refine pz_ 10 38 13 2047 ?_
   refine lz_ 11 39 13 4095 fun K hK => ?_
   refine gz_ Tryz.func117 #[.int .u32 I.x, .int .i64 X.l1.length] ?_
   with_reducible refine (KT).mono ?_
   rintro e w4 ⟨rfl, hb⟩
   have B4 := Aside0.mk (B3.out.trans (hb.mono B3.out.size))
   have HQ4 := Aside0.mk (And.intro (blk_below HQ3.out.1 hb) (blk_below HQ3.out.2 hb))
   clear hb
   refine ⟨_, rfl, ?_⟩
   refine hK.out _ _ ?_
   clear hK K
   refine nz_ ?_
   refine pz_ 12 40 13 8191 ?_
   refine dz_ ?_
   clear KT HQ3
   rw [e1] at *
   have hyc : w4.cell? (ad.add I.x) = some (.int .i64 u) := ((HK.out.below B4.out).bel.cell (World.block_lt_of_cell? _ _ HC.out)).trans HC.out
   have hkn := HK.out.below B4.out
   have KF := vFuncType_own X.A0 X.c0 X.l0 X.A1 X.c1 X.l1 X.A2 X.c2 X.l2 X.A3 X.c3 X.l3 X.A4 X.c4 X.l4 X.A5 X.c5 X.l5 X.A6 X.c6 X.l6 X.d7 X.A8 X.c8 X.l8 u w4 (HX.out.xin.below hkn.bel) HU.out
   have y0 : w4.cell? ⟨kb, 0, none⟩ = some (.slice X.A0 X.l0.length X.c0) := (blk_cell hkn.box 0).trans rfl
   have y1 : w4.cell? ⟨kb, 1, none⟩ = some (.slice X.A1 X.l1.length X.c1) := (blk_cell hkn.box 1).trans rfl
   have y2 : w4.cell? ⟨kb, 2, none⟩ = some (.slice X.A2 X.l2.length X.c2) := (blk_cell hkn.box 2).trans rfl
   have y3 : w4.cell? ⟨kb, 3, none⟩ = some (.slice X.A3 X.l3.length X.c3) := (blk_cell hkn.box 3).trans rfl
   have y4 : w4.cell? ⟨kb, 4, none⟩ = some (.slice X.A4 X.l4.length X.c4) := (blk_cell hkn.box 4).trans rfl
   have y5 : w4.cell? ⟨kb, 5, none⟩ = some (.slice X.A5 X.l5.length X.c5) := (blk_cell hkn.box 5).trans rfl
   have y6 : w4.cell? ⟨kb, 6, none⟩ = some (.slice X.A6 X.l6.length X.c6) := (blk_cell hkn.box 6).trans rfl
   have y7 : w4.cell? ⟨kb, 7, none⟩ = some (.int .i64 X.d7) := (blk_cell hkn.box 7).trans rfl
   have y8 : w4.cell? ⟨kb, 8, none⟩ = some (.slice X.A8 X.l8.length X.c8) := (blk_cell hkn.box 8).trans rfl
   rw [EA.out] at y1 KF
   clear hkn
   go_wp2_with fail
   refine KF.mono ?_
   rintro e w5 ⟨v1, v2, rfl, q1, q2, hb⟩
   have V1 := Aside0.mk q1
   have V2 := Aside0.mk q2
   have B5 := Aside0.mk (B4.out.trans (hb.mono B4.out.size))
   have HQ5 := Aside0.mk (And.intro (blk_below HQ4.out.1 hb) (blk_below HQ4.out.2 hb))
   have SZ4 : Aside0 (∀ y, (S y ∨ D y) ∨ y = w.heap.size → y < w4.heap.size) := ⟨(fun y e => e.elim (fun e => Nat.lt_of_lt_of_le (HLT.out y e) B4.out.size) (fun e => by rw [e]; exact blk_lt HQ4.out.1))⟩
   clear KF q1 q2 hb y0 y1 y2 y3 y4 y5 y6 y7 y8
   clear hyc e1 hjn hj0
   have x0 : w5.cell? ⟨w.heap.size + 1, 0, none⟩ = some (.int .i64 0) := (blk_cell HQ5.out.2 0).trans rfl
   have x1 : w5.cell? ⟨w.heap.size + 1, 1, none⟩ = some (.bool false) := (blk_cell HQ5.out.2 1).trans rfl
   have x2 : w5.cell? ⟨w.heap.size + 1, 2, none⟩ = some (.int .i64 0) := (blk_cell HQ5.out.2 2).trans rfl
   have p0 : w5.cell? ⟨w.heap.size, 0, none⟩ = some (.int .i64 0) := (blk_cell HQ5.out.1 0).trans rfl
   have p1 : w5.cell? ⟨w.heap.size, 1, none⟩ = some (.bool false) := (blk_cell HQ5.out.1 1).trans rfl
   have p2 : w5.cell? ⟨w.heap.size, 2, none⟩ = some (.int .i64 0) := (blk_cell HQ5.out.1 2).trans rfl
   have f0 : w5.frozen? ⟨w.heap.size, 0, none⟩ = false := blk_frozen HQ5.out.1 0
   have f1 : w5.frozen? ⟨w.heap.size, 1, none⟩ = false := blk_frozen HQ5.out.1 1
   have f2 : w5.frozen? ⟨w.heap.size, 2, none⟩ = false := blk_frozen HQ5.out.1 2
   have lp : w.heap.size < w5.heap.size := blk_lt HQ5.out.1
   go_wp2_with fail
   refine bodyPost_ret (v := .tuple #[.agg #[.int .i64 0, .bool false, .int .i64 0], v1, v2, .int .i64 (ftV X.l0 u).2.2]) ?_ rfl ?_
   ·exact results_cttt (p := 2) (u := 3) (v := 4) (y := 5) rfl _ _ w.heap.size 39 #[.int .i64 0, .bool false, .int .i64 0] (0, 0) _ rfl (set3_blk HQ5.out.1) Tryz.underlying39 rfl (by kernel_rfl)
   rw [HR2.out]
   exact ⟨v0, v1, v2, rfl, (lk_set3 (V1.out.lk SZ4.out) (.inr rfl) _ _ _).mono (fun _ e => .inl e), (lk_set3 (V2.out.lk SZ4.out) (.inr rfl) _ _ _).mono (fun _ e => .inl e), below_set3 B5.out (Nat.le_refl _) _ _ _⟩
set_option maxHeartbeats 8000000 in
theorem vcalled_t (h : St D S g k w) (hk : KI w1 D S kb g X I w) (hx : XK w1 X I) (hG : GOk X.l0) (hop : I.op = 20 ∨ I.op = 21) : Calls Tryz.prog 128 #[.pointer (some ⟨kb, 0, none⟩)] w (CalOut (fun x => S x ∨ D x) (calledM X I) w) := by
 obtain ⟨W, hW⟩ : ∃ W, W = (w.alloc (.cells #[.int .i64 0, .bool false, .int .i64 0] 39)).alloc (.cells #[.int .i64 0, .bool false, .int .i64 0] 39) := ⟨_, rfl⟩
 have b1 : Below w.heap.size w W := by rw [hW]; exact (bz_).alloc (by simp) _
 have hq0 : W.heap[w.heap.size]? = some (.cells #[.int .i64 0, .bool false, .int .i64 0] 39 (0, 0)) := by rw [hW]; exact blk_alloc (blk_new w _) _
 have hq1 : W.heap[w.heap.size + 1]? = some (.cells #[.int .i64 0, .bool false, .int .i64 0] 39 (0, 0)) := by rw [hW]; have h_ := blk_new (w.alloc (.cells #[.int .i64 0, .bool false, .int .i64 0] 39)) (.cells #[.int .i64 0, .bool false, .int .i64 0] 39); rw [World.size_alloc] at h_; exact h_
 have HQ := Aside0.mk (And.intro hq0 hq1)
 have H := Aside0.mk h
 have HK := Aside0.mk hk
 have HX := Aside0.mk hx
 have HG := Aside0.mk hG
 have B1 := Aside0.mk b1
 have HLT : Aside0 (∀ x, S x ∨ D x → x < w.heap.size) := ⟨h.lt⟩
 have z11 : (w.alloc (.cells #[.int .i64 0, .bool false, .int .i64 0] 39)).cell? ⟨kb, 11, none⟩ = some (.int .u32 I.x) := (blk_cell (hk.below (bz_)).box 11).trans rfl
 have z10 : ((w.alloc (.cells #[.int .i64 0, .bool false, .int .i64 0] 39)).alloc (.cells #[.int .i64 0, .bool false, .int .i64 0] 39)).cell? ⟨kb, 10, none⟩ = some (.int .i64 I.op) := by rw [← hW]; exact (blk_cell (hk.below b1).box 10).trans rfl
 have hwx : wrap64 (I.x : Int) = (I.x : Int) := wr4 I.x (by have := hx.x32; omega)
 have g0 : (I.op == 16) = false := by rcases hop with h_ | h_ <;> simp [h_]
 have g1 : (I.op == 18) = false := by rcases hop with h_ | h_ <;> simp [h_]
 have g2 : (I.op == 17) = false := by rcases hop with h_ | h_ <;> simp [h_]
 have g3 : (I.op == 19) = false := by rcases hop with h_ | h_ <;> simp [h_]
 obtain ⟨rr, hrr⟩ : ∃ rr, rr = calledM X I := ⟨_, rfl⟩
 rw [← hrr]
 obtain ⟨x, ex⟩ : ∃ x : S39, x = ⟨5, true, (I.x : Int)⟩ := ⟨_, rfl⟩
 have HR2 : Aside0 (rr = ((ftV X.l0 (I.x : Int)).2.2, (ftV X.l0 (I.x : Int)).1 ++ [x], (ftV X.l0 (I.x : Int)).2.1)) := ⟨by rw [hrr, ex]; unfold calledM; rw [if_neg (by rcases hop with h_ | h_ <;> simp [h_]), if_neg (by rcases hop with h_ | h_ <;> simp [h_])]⟩
 have EX := Aside0.mk ex
 have KR := vref_calls true (I.x : Int) W
 clear h hk hx hG b1 hq0 hq1 hrr hop ex
 go_enter Tryz.func128, Tryz.ntmps128
 go_wp2_with fail
 rw [hwx, ← hW]
 clear hW z11 z10
 refine KR.mono ?_
 rintro e w3 ⟨rfl, hb⟩
 have B3 := Aside0.mk (B1.out.trans (hb.mono B1.out.size))
 have HQ3 := Aside0.mk (And.intro (blk_below HQ.out.1 hb) (blk_below HQ.out.2 hb))
 clear hb KR HQ
 have p0 : w3.cell? ⟨w.heap.size + 1, 0, none⟩ = some (.int .i64 0) := (blk_cell HQ3.out.2 0).trans rfl
 have p1 : w3.cell? ⟨w.heap.size + 1, 1, none⟩ = some (.bool false) := (blk_cell HQ3.out.2 1).trans rfl
 have p2 : w3.cell? ⟨w.heap.size + 1, 2, none⟩ = some (.int .i64 0) := (blk_cell HQ3.out.2 2).trans rfl
 have f0 : w3.frozen? ⟨w.heap.size + 1, 0, none⟩ = false := blk_frozen HQ3.out.2 0
 have f1 : w3.frozen? ⟨w.heap.size + 1, 1, none⟩ = false := blk_frozen HQ3.out.2 1
 have f2 : w3.frozen? ⟨w.heap.size + 1, 2, none⟩ = false := blk_frozen HQ3.out.2 2
 have lp : w.heap.size + 1 < w3.heap.size := blk_lt HQ3.out.2
 go_upto_region 20 with fail
 obtain ⟨w4, hw4⟩ : ∃ w4, ((w3.setCell ⟨w.heap.size + 1, 0, none⟩ (.int .i64 5)).setCell ⟨w.heap.size + 1, 1, none⟩ (.bool true)).setCell ⟨w.heap.size + 1, 2, none⟩ (.int .i64 (I.x : Int)) = w4 := ⟨_, rfl⟩
 rw [hw4]
 have B4 : Aside0 (Below w.heap.size w w4) := ⟨by rw [← hw4]; exact below_set3 B3.out (Nat.le_succ _) _ _ _⟩
 have HQ4 : Aside0 (w4.heap[w.heap.size]? = some (.cells #[.int .i64 0, .bool false, .int .i64 0] 39 (0, 0)) ∧ w4.heap[w.heap.size + 1]? = some (.cells #[.int .i64 x.f0, .bool x.f1, .int .i64 x.f2] 39 (0, 0))) := ⟨by rw [← hw4, EX.out]; exact ⟨((set3_chg w3 (w.heap.size + 1) _ _ _).blk HQ3.out.1 (by omega)), set3_blk HQ3.out.2⟩⟩
 have g4 : (x.f0 == 0) = false := by rw [EX.out]; rfl
 have g5 : (x.f0 != 0) = true := by rw [EX.out]; rfl
 have hxv : NV64 (I.x : Int) := by have := HX.out.x32; constructor <;> omega
 clear hw4 p0 p1 p2 f0 f1 f2 lp HQ3 g0 g1 g2 g3
 have hkn := HK.out.below B4.out
 have KF := vFuncType_own X.A0 X.c0 X.l0 X.A1 X.c1 X.l1 X.A2 X.c2 X.l2 X.A3 X.c3 X.l3 X.A4 X.c4 X.l4 X.A5 X.c5 X.l5 X.A6 X.c6 X.l6 X.d7 X.A8 X.c8 X.l8 (I.x : Int) w4 (HX.out.xin.below hkn.bel) hxv
 have y0 : w4.cell? ⟨kb, 0, none⟩ = some (.slice X.A0 X.l0.length X.c0) := (blk_cell hkn.box 0).trans rfl
 have y1 : w4.cell? ⟨kb, 1, none⟩ = some (.slice X.A1 X.l1.length X.c1) := (blk_cell hkn.box 1).trans rfl
 have y2 : w4.cell? ⟨kb, 2, none⟩ = some (.slice X.A2 X.l2.length X.c2) := (blk_cell hkn.box 2).trans rfl
 have y3 : w4.cell? ⟨kb, 3, none⟩ = some (.slice X.A3 X.l3.length X.c3) := (blk_cell hkn.box 3).trans rfl
 have y4 : w4.cell? ⟨kb, 4, none⟩ = some (.slice X.A4 X.l4.length X.c4) := (blk_cell hkn.box 4).trans rfl
 have y5 : w4.cell? ⟨kb, 5, none⟩ = some (.slice X.A5 X.l5.length X.c5) := (blk_cell hkn.box 5).trans rfl
 have y6 : w4.cell? ⟨kb, 6, none⟩ = some (.slice X.A6 X.l6.length X.c6) := (blk_cell hkn.box 6).trans rfl
 have y7 : w4.cell? ⟨kb, 7, none⟩ = some (.int .i64 X.d7) := (blk_cell hkn.box 7).trans rfl
 have y8 : w4.cell? ⟨kb, 8, none⟩ = some (.slice X.A8 X.l8.length X.c8) := (blk_cell hkn.box 8).trans rfl
 clear hkn
 go_wp2_with fail
 refine KF.mono ?_
 rintro e w5 ⟨v1, v2, rfl, q1, q2, hb⟩
 have V1 := Aside0.mk q1
 have V2 := Aside0.mk q2
 have B5 := Aside0.mk (B4.out.trans (hb.mono B4.out.size))
 have HQ5 := Aside0.mk (And.intro (blk_below HQ4.out.1 hb) (blk_below HQ4.out.2 hb))
 have SZ4 : Aside0 (∀ y, (S y ∨ D y) ∨ y = w.heap.size → y < w4.heap.size) := ⟨(fun y e => e.elim (fun e => Nat.lt_of_lt_of_le (HLT.out y e) B4.out.size) (fun e => by rw [e]; exact blk_lt HQ4.out.1))⟩
 clear KF q1 q2 hb y0 y1 y2 y3 y4 y5 y6 y7 y8
 clear hxv
 obtain ⟨A, c, ev, hlc, _⟩ := V1.out
 subst ev
 have L1 := Aside0.mk (V1.out.lk SZ4.out)
 obtain ⟨m, hm⟩ : ∃ m, m = (ftV X.l0 (I.x : Int)).1.length := ⟨_, rfl⟩
 have HM := Aside0.mk hm
 rw [← hm] at L1 ⊢
 have x0 : w5.cell? ⟨w.heap.size + 1, 0, none⟩ = some (.int .i64 x.f0) := (blk_cell HQ5.out.2 0).trans rfl
 clear hlc hm
 go_wp2_with fail
 obtain ⟨w6, hw6⟩ : ∃ w6, World.drew w5 = w6 := ⟨_, rfl⟩
 have b6 : Below w5.heap.size w5 w6 := by rw [← hw6]; exact (Below.refl _ _).drew
 have L6 := Aside0.mk (L1.out.below b6)
 have HQ6 := Aside0.mk (And.intro (blk_below HQ5.out.1 b6) (blk_below HQ5.out.2 b6))
 have B6 := Aside0.mk (B5.out.trans (b6.mono B5.out.size))
 have V26 := Aside0.mk ((V2.out.lk SZ4.out).below b6)
 have FL := Aside0.mk (ftV_len X.l0 HX.out.xin.bulk (I.x : Int))
 have a0 : w6.cell? ⟨w.heap.size + 1, 0, none⟩ = some (.int .i64 x.f0) := (blk_cell HQ6.out.2 0).trans rfl
 have a1 : w6.cell? ⟨w.heap.size + 1, 1, none⟩ = some (.bool x.f1) := (blk_cell HQ6.out.2 1).trans rfl
 have a2 : w6.cell? ⟨w.heap.size + 1, 2, none⟩ = some (.int .i64 x.f2) := (blk_cell HQ6.out.2 2).trans rfl
 clear b6 x0 V1 V2 HQ5
 refine start_ (n := 6) (S := fun w' => w'.cell? ⟨w.heap.size + 1, 0, none⟩ = some (.int .i64 x.f0) ∧ w'.cell? ⟨w.heap.size + 1, 1, none⟩ = some (.bool x.f1) ∧ w'.cell? ⟨w.heap.size + 1, 2, none⟩ = some (.int .i64 x.f2)) (ds := [4]) (bm_ 6 0) (by kernel_rfl) rfl rfl ⟨(by rw [hw6]; exact a0), (by rw [hw6]; exact a1), (by rw [hw6]; exact a2)⟩ (fun hHeld => ?_)
 rw [hw6] at hHeld ⊢
 clear hw6 
 refine pz_ 0 108 6 1 ?_
 refine tz_ 2 110 6 5 hHeld ?_
 refine join_ (σ := Value × Nat) 2 (bm_ 6 15) (fun s_ => [(109, s_.1), (111, .slice (some ⟨s_.2, 0, none⟩) 1 1)]) (fun s_ w' => PF w6 (ftV X.l0 (I.x : Int)).1 [.int .i64 x.f0, .bool x.f1, .int .i64 x.f2] s_ w') ?_ ?_
 rotate_left
 ·intro hCont
  refine two_ (i := 1) (j := 3) (Ni := some 109) (Nj := some 111) (bm_ 6 7) (bm_ 6 13) rfl rfl rfl rfl (by kernel_rfl) (by decide) (by decide) (fun K hK => ?_) (fun K hK => ?_)
  ·skip
   have KL := clone_calls (fun y => (S y ∨ D y) ∨ y = w.heap.size) (ftV X.l0 (I.x : Int)).1 (v := .slice A m c) w6 L6.out (by have := FL.out.1; omega)
   refine gz_ Tryz.func76 #[.slice A m c] ?_
   with_reducible refine (KL).mono ?_
   rintro e w7 ⟨v7, rfl, hr_, hb0_⟩
   have g_ : _ ∧ _ ∧ _ := ⟨hb0_.kp hHeld.1, hb0_.kp hHeld.2.1, hb0_.kp hHeld.2.2⟩
   refine ⟨_, rfl, ?_⟩
   refine hK.out _ _ ⟨g_.1, g_.2.1, g_.2.2⟩ (fun hHeld => ?_)
   clear hK K
   refine nz_ ?_
   refine oz_ 3 111 6 15 fun K hK => ?_
   refine vz_ ?_
   have hb_ := (Below.refl _ _).alloc (w := w7) (Nat.le_refl _) (.cells #[.int .i64 x.f0, .bool x.f1, .int .i64 x.f2] 39)
   have g_ : _ ∧ _ ∧ _ := ⟨hb_.kp hHeld.1, hb_.kp hHeld.2.1, hb_.kp hHeld.2.2⟩
   refine hK.out _ _ ⟨g_.1, g_.2.1, g_.2.2⟩ (fun hHeld => ?_)
   clear hK K
   refine nz_ ?_
   exact norm_ (by simp only [putAll, Act.put, List.setIfInBounds_toArray, List.set_cons_zero, List.set_cons_succ]) (hCont (_, _) _ (PF.a hr_ hb0_))
  ·skip
   refine vz_ ?_
   have hb_ := (Below.refl _ _).alloc (w := w6) (Nat.le_refl _) (.cells #[.int .i64 x.f0, .bool x.f1, .int .i64 x.f2] 39)
   have g_ : _ ∧ _ ∧ _ := ⟨hb_.kp hHeld.1, hb_.kp hHeld.2.1, hb_.kp hHeld.2.2⟩
   refine hK.out _ _ ⟨g_.1, g_.2.1, g_.2.2⟩ (fun hHeld => ?_)
   clear hK K
   refine nz_ ?_
   refine oz_ 1 109 6 15 fun K hK => ?_
   have KL := clone_calls (fun y => (S y ∨ D y) ∨ y = w.heap.size) (ftV X.l0 (I.x : Int)).1 (v := .slice A m c) (w6.alloc (.cells #[.int .i64 x.f0, .bool x.f1, .int .i64 x.f2] 39)) (L6.out.below (bz_)) (by have := FL.out.1; omega)
   refine gz_ Tryz.func76 #[.slice A m c] ?_
   with_reducible refine (KL).mono ?_
   rintro e w7 ⟨v7, rfl, hr_, hb_⟩
   have g_ : _ ∧ _ ∧ _ := ⟨hb_.kp hHeld.1, hb_.kp hHeld.2.1, hb_.kp hHeld.2.2⟩
   refine ⟨_, rfl, ?_⟩
   refine hK.out _ _ ⟨g_.1, g_.2.1, g_.2.2⟩ (fun hHeld => ?_)
   clear hK K
   refine nz_ ?_
   exact norm_ (by simp only [putAll, Act.put, List.setIfInBounds_toArray, List.set_cons_zero, List.set_cons_succ]) (hCont (_, _) _ (PF.b hr_ hb_))
 rintro ⟨v7, by_⟩ w7 hpf
 have hb_ := hpf.2.2
 have hHeld : w7.cell? ⟨w.heap.size + 1, 0, none⟩ = some (.int .i64 x.f0) ∧ _ ∧ _ := ⟨hb_.kp a0, hb_.kp a1, hb_.kp a2⟩
 have PFo := Aside0.mk hpf
 obtain ⟨A7, c7, ev7⟩ := Kd.R_slice hpf.1
 dsimp only at ev7
 subst ev7
 clear hpf hb_
 refine norm_ (a' := ?_) ?_ ?_
 rotate_left
 ·simp only [putAll, Act.put, List.setIfInBounds_toArray, List.set_cons_zero, List.set_cons_succ]
  rfl
 refine lz_ 4 112 6 31 fun K hK => ?_
 refine Kd.R_append_rows_step k39 (Rr := k39.K w7) (w0 := w6) w6.heap.size (by rfl) (.tmp 109) (.tmp 111) 27 39 (.agg #[.int .i64 0, .bool false, .int .i64 0]) 24 rfl Tryz.underlying27 info39 rfl (by decide) (by decide) (.slice A7 (ftV X.l0 (I.x : Int)).1.length c7) (ftV X.l0 (I.x : Int)).1 [x] (some ⟨by_, 0, none⟩) 1 1 (fun _ => True) (fun _ => False) rfl rfl PFo.out.1 (box_reads x PFo.out.2.1) (fun y cs hk => by rw [k39_open hk]; exact k39_mkM _ _ _ y) (fun _ hk => hk.elim) (fun _ _ => trivial) PFo.out.2.2 PFo.out.2.2.size (by have := FL.out.1; omega) ?_
 intro v8 w8 hr8 hb8 hg8 _
 have R8 := Aside0.mk hr8
 have B8 := Aside0.mk hb8
 clear hr8 hb8 hg8
 refine hK.out _ _ ?_
 clear hK K
 refine nz_ ?_
 refine pz_ 5 9 6 63 ?_
 refine dz_ ?_
 have HQ8 := Aside0.mk (And.intro (blk_below HQ6.out.1 B8.out) (blk_below HQ6.out.2 B8.out))
 have B9 := Aside0.mk (B6.out.trans (B8.out.mono B6.out.size))
 have V28 := Aside0.mk (V26.out.below B8.out)
 have SZ6 : Aside0 (∀ y, (S y ∨ D y) ∨ y = w.heap.size → y < w6.heap.size) := ⟨fun y e => e.elim (fun e => Nat.lt_of_lt_of_le (HLT.out y e) B6.out.size) (fun e => by rw [e]; exact blk_lt HQ6.out.1)⟩
 clear a0 a1 a2
 have x0 : w8.cell? ⟨w.heap.size + 1, 0, none⟩ = some (.int .i64 x.f0) := (blk_cell HQ8.out.2 0).trans rfl
 have x1 : w8.cell? ⟨w.heap.size + 1, 1, none⟩ = some (.bool x.f1) := (blk_cell HQ8.out.2 1).trans rfl
 have x2 : w8.cell? ⟨w.heap.size + 1, 2, none⟩ = some (.int .i64 x.f2) := (blk_cell HQ8.out.2 2).trans rfl
 have p0 : w8.cell? ⟨w.heap.size, 0, none⟩ = some (.int .i64 0) := (blk_cell HQ8.out.1 0).trans rfl
 have p1 : w8.cell? ⟨w.heap.size, 1, none⟩ = some (.bool false) := (blk_cell HQ8.out.1 1).trans rfl
 have p2 : w8.cell? ⟨w.heap.size, 2, none⟩ = some (.int .i64 0) := (blk_cell HQ8.out.1 2).trans rfl
 have f0 : w8.frozen? ⟨w.heap.size, 0, none⟩ = false := blk_frozen HQ8.out.1 0
 have f1 : w8.frozen? ⟨w.heap.size, 1, none⟩ = false := blk_frozen HQ8.out.1 1
 have f2 : w8.frozen? ⟨w.heap.size, 2, none⟩ = false := blk_frozen HQ8.out.1 2
 have lp : w.heap.size < w8.heap.size := blk_lt HQ8.out.1
 go_wp2_with fail
 refine bodyPost_ret (v := .tuple #[.agg #[.int .i64 x.f0, .bool x.f1, .int .i64 x.f2], v8, v2, .int .i64 (ftV X.l0 (I.x : Int)).2.2]) ?_ rfl ?_
 ·exact results_cttt (p := 2) (u := 3) (v := 4) (y := 5) rfl _ _ w.heap.size 39 #[.int .i64 x.f0, .bool x.f1, .int .i64 x.f2] (0, 0) _ rfl (set3_blk HQ8.out.1) Tryz.underlying39 rfl (by kernel_rfl)
 rw [HR2.out]
 exact ⟨x, v8, v2, rfl, (lk_set3 (LK.fresh R8.out SZ6.out) (.inr rfl) _ _ _).mono (fun _ e => .inl e), (lk_set3 V28.out (.inr rfl) _ _ _).mono (fun _ e => .inl e), below_set3 B9.out (Nat.le_refl _) _ _ _⟩
set_option maxHeartbeats 8000000 in
theorem vcalled_y (h : St D S g k w) (hk : KI w1 D S kb g X I w) (hx : XK w1 X I) (hG : GOk X.l0) (hop : I.op = 17 ∨ I.op = 19) : Calls Tryz.prog 128 #[.pointer (some ⟨kb, 0, none⟩)] w (CalOut (fun x => S x ∨ D x) (calledM X I) w) := by
 obtain ⟨W, hW⟩ : ∃ W, W = (w.alloc (.cells #[.int .i64 0, .bool false, .int .i64 0] 39)).alloc (.cells #[.int .i64 0, .bool false, .int .i64 0] 39) := ⟨_, rfl⟩
 have b1 : Below w.heap.size w W := by rw [hW]; exact (bz_).alloc (by simp) _
 have hq0 : W.heap[w.heap.size]? = some (.cells #[.int .i64 0, .bool false, .int .i64 0] 39 (0, 0)) := by rw [hW]; exact blk_alloc (blk_new w _) _
 have hq1 : W.heap[w.heap.size + 1]? = some (.cells #[.int .i64 0, .bool false, .int .i64 0] 39 (0, 0)) := by rw [hW]; have h_ := blk_new (w.alloc (.cells #[.int .i64 0, .bool false, .int .i64 0] 39)) (.cells #[.int .i64 0, .bool false, .int .i64 0] 39); rw [World.size_alloc] at h_; exact h_
 have HQ := Aside0.mk (And.intro hq0 hq1)
 have H := Aside0.mk h
 have HK := Aside0.mk hk
 have HX := Aside0.mk hx
 have HG := Aside0.mk hG
 have B1 := Aside0.mk b1
 have HLT : Aside0 (∀ x, S x ∨ D x → x < w.heap.size) := ⟨h.lt⟩
 have z11 : (w.alloc (.cells #[.int .i64 0, .bool false, .int .i64 0] 39)).cell? ⟨kb, 11, none⟩ = some (.int .u32 I.x) := (blk_cell (hk.below (bz_)).box 11).trans rfl
 have z10 : ((w.alloc (.cells #[.int .i64 0, .bool false, .int .i64 0] 39)).alloc (.cells #[.int .i64 0, .bool false, .int .i64 0] 39)).cell? ⟨kb, 10, none⟩ = some (.int .i64 I.op) := by rw [← hW]; exact (blk_cell (hk.below b1).box 10).trans rfl
 have hwx : wrap64 (I.x : Int) = (I.x : Int) := wr4 I.x (by have := hx.x32; omega)
 have g0 : (I.op == 16) = false := by rcases hop with h_ | h_ <;> simp [h_]
 have g1 : (I.op == 18) = false := by rcases hop with h_ | h_ <;> simp [h_]
 have G : Aside0 ((I.op == 17) = true ∨ (I.op == 17) = false ∧ (I.op == 19) = true) := ⟨by rcases hop with h_ | h_ <;> simp [h_]⟩
 obtain ⟨rr, hrr⟩ : ∃ rr, rr = calledM X I := ⟨_, rfl⟩
 rw [← hrr]
 have HR : Aside0 ((∀ t, X.l2[I.y]? = some t → rr = if valM X.l0 t.f0 ⟨5, true, -1⟩ then ((ftV X.l0 (I.x : Int)).2.2, (ftV X.l0 (I.x : Int)).1 ++ [⟨if t.f1.f0 then 2 else 1, false, 0⟩], (ftV X.l0 (I.x : Int)).2.1) else (131, [], [])) ∧ (X.l2[I.y]? = none → rr = (150, [], []))) := ⟨by rw [hrr]; unfold calledM; rw [if_neg (by rcases hop with h_ | h_ <;> simp [h_]), if_pos hop]; exact ⟨fun u e => by rw [e], fun e => by rw [e]⟩⟩
 clear h hk hx hG b1 hq0 hq1 hrr hop
 rcases G.out with g2 | ⟨g2, g3⟩
 all_goals
  clear G
  go_enter Tryz.func128, Tryz.ntmps128
  go_wp2_with fail
  rw [← hW]
  clear hW z11 z10
  rcases Nat.lt_or_ge I.y X.l2.length with hlt | hge
  rotate_left
  ·have HR2 := Aside0.mk (HR.out.2 (List.getElem?_eq_none hge))
   have e1 : decide (I.y < X.l2.length) = false := decide_eq_false (by omega)
   clear HR hge
   rw [hwx]
   obtain ⟨w3, hw3⟩ : ∃ w3, World.drew W = w3 := ⟨_, rfl⟩
   have b3 : Below w.heap.size w w3 := by rw [← hw3]; exact B1.out.drew
   have B3 := Aside0.mk b3
   have KT := there_calls I.y X.l2.length HX.out.y32 w3
   have z0 : w3.cell? ⟨kb, 12, none⟩ = some (.int .u32 I.y) := (blk_cell (HK.out.below b3).box 12).trans rfl
   have z1 : w3.cell? ⟨kb, 2, none⟩ = some (.slice X.A2 X.l2.length X.c2) := (blk_cell (HK.out.below b3).box 2).trans rfl
   have HQ3 : Aside0 (w3.heap[w.heap.size]? = some (.cells #[.int .i64 0, .bool false, .int .i64 0] 39 (0, 0)) ∧ w3.heap[w.heap.size + 1]? = some (.cells #[.int .i64 0, .bool false, .int .i64 0] 39 (0, 0))) := ⟨by rw [← hw3]; exact HQ.out⟩
   clear b3 HQ
   refine start_ (n := 13) (S := fun w' => w'.cell? ⟨kb, 12, none⟩ = some (.int .u32 I.y) ∧ w'.cell? ⟨kb, 2, none⟩ = some (.slice X.A2 X.l2.length X.c2)) (ds := [11]) (bm_ 13 0) (by kernel_rfl) rfl rfl ⟨(by rw [hw3]; exact z0), (by rw [hw3]; exact z1)⟩ (fun hHeld => ?_)
   rw [hw3] at hHeld ⊢
   clear hw3 z0 z1
   refine pz_ 0 53 13 1 ?_
   refine pz_ 1 54 13 3 ?_
   refine pz_ 2 55 13 7 ?_
   refine pz_ 3 56 13 15 ?_
   refine pz_ 5 58 13 47 ?_
   refine pz_ 6 59 13 111 ?_
   refine pz_ 7 60 13 239 ?_
   refine pz_ 8 61 13 495 ?_
   refine tz_ 4 57 13 511 hHeld ?_
   refine tz_ 9 62 13 1023 hHeld ?_
   refine pz_ 10 63 13 2047 ?_
   refine lz_ 11 64 13 4095 fun K hK => ?_
   refine gz_ Tryz.func117 #[.int .u32 I.y, .int .i64 X.l2.length] ?_
   with_reducible refine (KT).mono ?_
   rintro e w4 ⟨rfl, hb⟩
   have B4 := Aside0.mk (B3.out.trans (hb.mono B3.out.size))
   have HQ4 := Aside0.mk (And.intro (blk_below HQ3.out.1 hb) (blk_below HQ3.out.2 hb))
   clear hb
   refine ⟨_, rfl, ?_⟩
   refine hK.out _ _ ?_
   clear hK K
   refine nz_ ?_
   refine pz_ 12 65 13 8191 ?_
   refine dz_ ?_
   clear KT HQ3
   rw [e1] at *
   have x0 : w4.cell? ⟨w.heap.size + 1, 0, none⟩ = some (.int .i64 0) := (blk_cell HQ4.out.2 0).trans rfl
   have x1 : w4.cell? ⟨w.heap.size + 1, 1, none⟩ = some (.bool false) := (blk_cell HQ4.out.2 1).trans rfl
   have x2 : w4.cell? ⟨w.heap.size + 1, 2, none⟩ = some (.int .i64 0) := (blk_cell HQ4.out.2 2).trans rfl
   have p0 : w4.cell? ⟨w.heap.size, 0, none⟩ = some (.int .i64 0) := (blk_cell HQ4.out.1 0).trans rfl
   have p1 : w4.cell? ⟨w.heap.size, 1, none⟩ = some (.bool false) := (blk_cell HQ4.out.1 1).trans rfl
   have p2 : w4.cell? ⟨w.heap.size, 2, none⟩ = some (.int .i64 0) := (blk_cell HQ4.out.1 2).trans rfl
   have f0 : w4.frozen? ⟨w.heap.size, 0, none⟩ = false := blk_frozen HQ4.out.1 0
   have f1 : w4.frozen? ⟨w.heap.size, 1, none⟩ = false := blk_frozen HQ4.out.1 1
   have f2 : w4.frozen? ⟨w.heap.size, 2, none⟩ = false := blk_frozen HQ4.out.1 2
   have lp : w.heap.size < w4.heap.size := blk_lt HQ4.out.1
   go_wp2_with fail
   refine bodyPost_ret (v := .tuple #[.agg #[.int .i64 0, .bool false, .int .i64 0], .slice none 0 0, .slice none 0 0, .int .i64 150]) ?_ rfl ?_
   ·exact results_cttt (p := 2) (u := 3) (v := 4) (y := 5) rfl _ _ w.heap.size 39 #[.int .i64 0, .bool false, .int .i64 0] (0, 0) _ rfl (set3_blk HQ4.out.1) Tryz.underlying39 rfl (by kernel_rfl)
   rw [HR2.out]
   exact ⟨v0, _, _, rfl, LK.nil _ _ _, LK.nil _ _ _, below_set3 B4.out (Nat.le_refl _) _ _ _⟩
  ·obtain ⟨t, ht⟩ : ∃ t, X.l2[I.y]? = some t := ⟨_, List.getElem?_eq_getElem hlt⟩
   have HR1 := Aside0.mk (HR.out.1 t ht)
   have e1 : decide (I.y < X.l2.length) = true := decide_eq_true hlt
   have hjn : (I.y : Int) < (X.l2.length : Int) := by omega
   have hj0 : (0 : Int) ≤ (I.y : Int) := Int.natCast_nonneg _
   obtain ⟨ad, eA, hc0, hc⟩ := tt_at HX.out.xin.r2 ht
   have EA := Aside0.mk eA
   have HC := Aside0.mk (And.intro hc0 hc)
   clear HR hlt ht eA hc0 hc
   rw [hwx]
   obtain ⟨w3, hw3⟩ : ∃ w3, World.drew W = w3 := ⟨_, rfl⟩
   have b3 : Below w.heap.size w w3 := by rw [← hw3]; exact B1.out.drew
   have B3 := Aside0.mk b3
   have KT := there_calls I.y X.l2.length HX.out.y32 w3
   have z0 : w3.cell? ⟨kb, 12, none⟩ = some (.int .u32 I.y) := (blk_cell (HK.out.below b3).box 12).trans rfl
   have z1 : w3.cell? ⟨kb, 2, none⟩ = some (.slice X.A2 X.l2.length X.c2) := (blk_cell (HK.out.below b3).box 2).trans rfl
   have HQ3 : Aside0 (w3.heap[w.heap.size]? = some (.cells #[.int .i64 0, .bool false, .int .i64 0] 39 (0, 0)) ∧ w3.heap[w.heap.size + 1]? = some (.cells #[.int .i64 0, .bool false, .int .i64 0] 39 (0, 0))) := ⟨by rw [← hw3]; exact HQ.out⟩
   clear b3 HQ
   refine start_ (n := 13) (S := fun w' => w'.cell? ⟨kb, 12, none⟩ = some (.int .u32 I.y) ∧ w'.cell? ⟨kb, 2, none⟩ = some (.slice X.A2 X.l2.length X.c2)) (ds := [11]) (bm_ 13 0) (by kernel_rfl) rfl rfl ⟨(by rw [hw3]; exact z0), (by rw [hw3]; exact z1)⟩ (fun hHeld => ?_)
   rw [hw3] at hHeld ⊢
   clear hw3 z0 z1
   refine pz_ 0 53 13 1 ?_
   refine pz_ 1 54 13 3 ?_
   refine pz_ 2 55 13 7 ?_
   refine pz_ 3 56 13 15 ?_
   refine pz_ 5 58 13 47 ?_
   refine pz_ 6 59 13 111 ?_
   refine pz_ 7 60 13 239 ?_
   refine pz_ 8 61 13 495 ?_
   refine tz_ 4 57 13 511 hHeld ?_
   refine tz_ 9 62 13 1023 hHeld ?_
   refine pz_ 10 63 13 2047 ?_
   refine lz_ 11 64 13 4095 fun K hK => ?_
   refine gz_ Tryz.func117 #[.int .u32 I.y, .int .i64 X.l2.length] ?_
   with_reducible refine (KT).mono ?_
   rintro e w4 ⟨rfl, hb⟩
   have B4 := Aside0.mk (B3.out.trans (hb.mono B3.out.size))
   have HQ4 := Aside0.mk (And.intro (blk_below HQ3.out.1 hb) (blk_below HQ3.out.2 hb))
   clear hb
   refine ⟨_, rfl, ?_⟩
   refine hK.out _ _ ?_
   clear hK K
   refine nz_ ?_
   refine pz_ 12 65 13 8191 ?_
   refine dz_ ?_
   clear KT HQ3
   rw [e1] at *
   go_wp2_with fail
   obtain ⟨w5, hw5⟩ : ∃ w5, World.drew w4 = w5 := ⟨_, rfl⟩
   have b5 : Below w4.heap.size w4 w5 := by rw [← hw5]; exact (Below.refl _ _).drew
   have B5 := Aside0.mk (B4.out.trans (b5.mono B4.out.size))
   have HQ5 := Aside0.mk (And.intro (blk_below HQ4.out.1 b5) (blk_below HQ4.out.2 b5))
   have hk5 := HK.out.below B5.out
   have y2 : w5.cell? ⟨kb, 2, none⟩ = some (.slice (some ad) X.l2.length X.c2) := by rw [← EA.out]; exact (blk_cell hk5.box 2).trans rfl
   have y12 : w5.cell? ⟨kb, 12, none⟩ = some (.int .u32 I.y) := (blk_cell hk5.box 12).trans rfl
   have t0 : w5.cell? (ad.add (I.y * 7)) = some (.int .i64 t.f0.f0) := hk5.bel.kp HC.out.1
   have t1 : w5.cell? ⟨(ad.add (I.y * 7)).block, (ad.add (I.y * 7)).off + 1, none⟩ = some (.bool t.f0.f1) := (hk5.bel.cell (World.block_lt_of_cell? _ _ (HC.out.2 1 _ (by decide) rfl))).trans (HC.out.2 1 _ (by decide) rfl)
   have t2 : w5.cell? ⟨(ad.add (I.y * 7)).block, (ad.add (I.y * 7)).off + 2, none⟩ = some (.int .i64 t.f0.f2) := (hk5.bel.cell (World.block_lt_of_cell? _ _ (HC.out.2 2 _ (by decide) rfl))).trans (HC.out.2 2 _ (by decide) rfl)
   have t3 : w5.cell? ⟨(ad.add (I.y * 7)).block, (ad.add (I.y * 7)).off + 3, none⟩ = some (.bool t.f1.f0) := (hk5.bel.cell (World.block_lt_of_cell? _ _ (HC.out.2 3 _ (by decide) rfl))).trans (HC.out.2 3 _ (by decide) rfl)
   have t4 : w5.cell? ⟨(ad.add (I.y * 7)).block, (ad.add (I.y * 7)).off + 4, none⟩ = some (.int .u64 t.f1.f1) := (hk5.bel.cell (World.block_lt_of_cell? _ _ (HC.out.2 4 _ (by decide) rfl))).trans (HC.out.2 4 _ (by decide) rfl)
   have t5 : w5.cell? ⟨(ad.add (I.y * 7)).block, (ad.add (I.y * 7)).off + 5, none⟩ = some (.int .u64 t.f1.f2) := (hk5.bel.cell (World.block_lt_of_cell? _ _ (HC.out.2 5 _ (by decide) rfl))).trans (HC.out.2 5 _ (by decide) rfl)
   have t6 : w5.cell? ⟨(ad.add (I.y * 7)).block, (ad.add (I.y * 7)).off + 6, none⟩ = some (.bool t.f1.f3) := (hk5.bel.cell (World.block_lt_of_cell? _ _ (HC.out.2 6 _ (by decide) rfl))).trans (HC.out.2 6 _ (by decide) rfl)
   clear b5 hk5 HQ4
   refine start_ (n := 14) (S := fun w' => w'.cell? ⟨kb, 2, none⟩ = some (.slice (some ad) X.l2.length X.c2) ∧ w'.cell? ⟨kb, 12, none⟩ = some (.int .u32 I.y) ∧ w'.cell? (ad.add (I.y * 7)) = some (.int .i64 t.f0.f0) ∧ w'.cell? ⟨(ad.add (I.y * 7)).block, (ad.add (I.y * 7)).off + 1, none⟩ = some (.bool t.f0.f1) ∧ w'.cell? ⟨(ad.add (I.y * 7)).block, (ad.add (I.y * 7)).off + 2, none⟩ = some (.int .i64 t.f0.f2) ∧ w'.cell? ⟨(ad.add (I.y * 7)).block, (ad.add (I.y * 7)).off + 3, none⟩ = some (.bool t.f1.f0) ∧ w'.cell? ⟨(ad.add (I.y * 7)).block, (ad.add (I.y * 7)).off + 4, none⟩ = some (.int .u64 t.f1.f1) ∧ w'.cell? ⟨(ad.add (I.y * 7)).block, (ad.add (I.y * 7)).off + 5, none⟩ = some (.int .u64 t.f1.f2) ∧ w'.cell? ⟨(ad.add (I.y * 7)).block, (ad.add (I.y * 7)).off + 6, none⟩ = some (.bool t.f1.f3)) (ds := [13]) (bm_ 14 0) (by kernel_rfl) rfl rfl ⟨(by rw [hw5]; exact y2), (by rw [hw5]; exact y12), (by rw [hw5]; exact t0), (by rw [hw5]; exact t1), (by rw [hw5]; exact t2), (by rw [hw5]; exact t3), (by rw [hw5]; exact t4), (by rw [hw5]; exact t5), (by rw [hw5]; exact t6)⟩ (fun hHeld => ?_)
   rw [hw5] at hHeld ⊢
   clear hw5 y2 y12 t0 t1 t2 t3 t4 t5 t6
   refine pz_ 0 67 14 1 ?_
   refine pz_ 1 68 14 3 ?_
   refine pz_ 2 69 14 7 ?_
   refine pz_ 3 70 14 15 ?_
   refine pz_ 5 72 14 47 ?_
   refine pz_ 6 73 14 111 ?_
   refine pz_ 7 74 14 239 ?_
   refine pz_ 8 75 14 495 ?_
   refine tz_ 4 71 14 511 hHeld ?_
   refine tz_ 9 76 14 1023 hHeld ?_
   refine pz_ 10 77 14 2047 ?_
   refine tz_ 11 78 14 4095 hHeld ?_
   refine oz_ 12 8 14 8191 fun K hK => ?_
   refine vz_ ?_
   refine hK.out _ _ ⟨((bz_ : Below w5.heap.size w5 (w5.alloc _)).cell (World.block_lt_of_cell? _ _ hHeld.1)).trans hHeld.1, ((bz_ : Below w5.heap.size w5 (w5.alloc _)).cell (World.block_lt_of_cell? _ _ hHeld.2.1)).trans hHeld.2.1, ((bz_ : Below w5.heap.size w5 (w5.alloc _)).cell (World.block_lt_of_cell? _ _ hHeld.2.2.1)).trans hHeld.2.2.1, ((bz_ : Below w5.heap.size w5 (w5.alloc _)).cell (World.block_lt_of_cell? _ _ hHeld.2.2.2.1)).trans hHeld.2.2.2.1, ((bz_ : Below w5.heap.size w5 (w5.alloc _)).cell (World.block_lt_of_cell? _ _ hHeld.2.2.2.2.1)).trans hHeld.2.2.2.2.1, ((bz_ : Below w5.heap.size w5 (w5.alloc _)).cell (World.block_lt_of_cell? _ _ hHeld.2.2.2.2.2.1)).trans hHeld.2.2.2.2.2.1, ((bz_ : Below w5.heap.size w5 (w5.alloc _)).cell (World.block_lt_of_cell? _ _ hHeld.2.2.2.2.2.2.1)).trans hHeld.2.2.2.2.2.2.1, ((bz_ : Below w5.heap.size w5 (w5.alloc _)).cell (World.block_lt_of_cell? _ _ hHeld.2.2.2.2.2.2.2.1)).trans hHeld.2.2.2.2.2.2.2.1, ((bz_ : Below w5.heap.size w5 (w5.alloc _)).cell (World.block_lt_of_cell? _ _ hHeld.2.2.2.2.2.2.2.2)).trans hHeld.2.2.2.2.2.2.2.2⟩ (fun hHeld => ?_)
   clear hK K
   refine nz_ ?_
   refine last_ (i := 13) (N := none) (bm_ 14 16383) rfl rfl (by kernel_rfl) (by decide) (fun K hK => ?_)
   refine sz_ ?_
   refine hK.out _ _ ?_
   clear hK K
   refine dz_ ?_
   go_wp2_with fail
   obtain ⟨w6, hw6⟩ : ∃ w6, World.drew (w5.alloc (.cells #[.int .i64 t.f0.f0, .bool t.f0.f1, .int .i64 t.f0.f2, .bool t.f1.f0, .int .u64 t.f1.f1, .int .u64 t.f1.f2, .bool t.f1.f3] 214)) = w6 := ⟨_, rfl⟩
   have b6 : Below w5.heap.size w5 w6 := by rw [← hw6]; exact (bz_).drew
   have qt : w6.heap[w5.heap.size]? = some (.cells #[.int .i64 t.f0.f0, .bool t.f0.f1, .int .i64 t.f0.f2, .bool t.f1.f0, .int .u64 t.f1.f1, .int .u64 t.f1.f2, .bool t.f1.f3] 214 (0, 0)) := by rw [← hw6]; exact blk_new w5 _
   have QT := Aside0.mk qt
   have HQ6 := Aside0.mk (And.intro (blk_below HQ5.out.1 b6) (blk_below HQ5.out.2 b6))
   have B6 := Aside0.mk (B5.out.trans (b6.mono B5.out.size))
   have hk6 := HK.out.below B6.out
   have HK6 := Aside0.mk hk6
   have LQ : Aside0 (w.heap.size + 1 < w5.heap.size) := ⟨blk_lt HQ5.out.2⟩
   have y0 : w6.cell? ⟨kb, 0, none⟩ = some (.slice X.A0 X.l0.length X.c0) := (blk_cell hk6.box 0).trans rfl
   have t0 : w6.cell? ⟨w5.heap.size, 0, none⟩ = some (.int .i64 t.f0.f0) := (blk_cell qt 0).trans rfl
   have t1 : w6.cell? ⟨w5.heap.size, 1, none⟩ = some (.bool t.f0.f1) := (blk_cell qt 1).trans rfl
   have t2 : w6.cell? ⟨w5.heap.size, 2, none⟩ = some (.int .i64 t.f0.f2) := (blk_cell qt 2).trans rfl
   have KR := vref_calls true (-1) w6
   obtain ⟨b, hb⟩ : ∃ b, b = valM X.l0 t.f0 ⟨5, true, -1⟩ := ⟨_, rfl⟩
   have HB := Aside0.mk hb
   clear b6 hk6 qt HQ5 hb hjn hj0
   refine start_ (n := 10) (S := fun w' => w'.cell? ⟨kb, 0, none⟩ = some (.slice X.A0 X.l0.length X.c0) ∧ w'.cell? ⟨w5.heap.size, 0, none⟩ = some (.int .i64 t.f0.f0) ∧ w'.cell? ⟨w5.heap.size, 1, none⟩ = some (.bool t.f0.f1) ∧ w'.cell? ⟨w5.heap.size, 2, none⟩ = some (.int .i64 t.f0.f2)) (ds := [8]) (bm_ 10 0) (by kernel_rfl) rfl rfl ⟨(by rw [hw6]; exact y0), (by rw [hw6]; exact t0), (by rw [hw6]; exact t1), (by rw [hw6]; exact t2)⟩ (fun hHeld => ?_)
   rw [hw6] at hHeld ⊢
   clear hw6 y0 t0 t1 t2
   refine pz_ 0 79 10 1 ?_
   refine pz_ 1 80 10 3 ?_
   refine pz_ 2 81 10 7 ?_
   refine pz_ 3 82 10 15 ?_
   refine pz_ 5 84 10 47 ?_
   refine tz_ 4 83 10 63 hHeld ?_
   refine tz_ 6 85 10 127 hHeld ?_
   refine oz_ 7 86 10 255 fun K hK => ?_
   refine gz_ Tryz.func77 #[.bool true, .int .i64 (-1)] ?_
   with_reducible refine (KR).mono ?_
   rintro e w7 ⟨rfl, hb7⟩
   have B7 := Aside0.mk hb7
   have B67 := Aside0.mk (B6.out.trans (hb7.mono B6.out.size))
   clear hb7 KR
   refine ⟨_, rfl, ?_⟩
   refine hK.out _ _ ⟨B7.out.kp hHeld.1, B7.out.kp hHeld.2.1, B7.out.kp hHeld.2.2.1, B7.out.kp hHeld.2.2.2⟩ (fun hHeld => ?_)
   clear hK K
   refine nz_ ?_
   refine lz_ 8 87 10 511 fun K hK => ?_
   have KV := subVal_calls HG.out (HG.out.la ((HK6.out.below B7.out).lent k132_heap HX.out.xin.h0 HX.out.xin.r0)) (H.out.below B67.out).tab t.f0 ⟨5, true, -1⟩
   rw [← HB.out] at KV
   refine gz_ Tryz.func119 #[.slice X.A0 X.l0.length X.c0, .agg #[.int .i64 t.f0.f0, .bool t.f0.f1, .int .i64 t.f0.f2], .agg #[.int .i64 5, .bool true, .int .i64 (-1)]] ?_
   with_reducible refine (KV).mono ?_
   rintro e w8 ⟨rfl, hb8⟩
   have B78 := Aside0.mk (B7.out.trans (hb8.mono B7.out.size))
   have B8 := Aside0.mk (B67.out.trans (hb8.mono B67.out.size))
   clear hb8 KV
   refine ⟨_, rfl, ?_⟩
   refine hK.out _ _ ?_
   clear hK K
   refine nz_ ?_
   refine pz_ 9 88 10 1023 ?_
   refine dz_ ?_
   have HQ8 := Aside0.mk (And.intro (blk_below HQ6.out.1 B78.out) (blk_below HQ6.out.2 B78.out))
   have QT8 := Aside0.mk (blk_below QT.out B78.out)
   clear HQ6 QT
   cases b with
   | false =>
    have HR2 : Aside0 (rr = (131, [], [])) := ⟨by rw [HR1.out, ← HB.out]; rfl⟩
    clear HR1
    have x0 : w8.cell? ⟨w.heap.size + 1, 0, none⟩ = some (.int .i64 0) := (blk_cell HQ8.out.2 0).trans rfl
    have x1 : w8.cell? ⟨w.heap.size + 1, 1, none⟩ = some (.bool false) := (blk_cell HQ8.out.2 1).trans rfl
    have x2 : w8.cell? ⟨w.heap.size + 1, 2, none⟩ = some (.int .i64 0) := (blk_cell HQ8.out.2 2).trans rfl
    have p0 : w8.cell? ⟨w.heap.size, 0, none⟩ = some (.int .i64 0) := (blk_cell HQ8.out.1 0).trans rfl
    have p1 : w8.cell? ⟨w.heap.size, 1, none⟩ = some (.bool false) := (blk_cell HQ8.out.1 1).trans rfl
    have p2 : w8.cell? ⟨w.heap.size, 2, none⟩ = some (.int .i64 0) := (blk_cell HQ8.out.1 2).trans rfl
    have f0 : w8.frozen? ⟨w.heap.size, 0, none⟩ = false := blk_frozen HQ8.out.1 0
    have f1 : w8.frozen? ⟨w.heap.size, 1, none⟩ = false := blk_frozen HQ8.out.1 1
    have f2 : w8.frozen? ⟨w.heap.size, 2, none⟩ = false := blk_frozen HQ8.out.1 2
    have lp : w.heap.size < w8.heap.size := blk_lt HQ8.out.1
    go_wp2_with fail
    refine bodyPost_ret (v := .tuple #[.agg #[.int .i64 0, .bool false, .int .i64 0], .slice none 0 0, .slice none 0 0, .int .i64 131]) ?_ rfl ?_
    ·exact results_cttt (p := 2) (u := 3) (v := 4) (y := 5) rfl _ _ w.heap.size 39 #[.int .i64 0, .bool false, .int .i64 0] (0, 0) _ rfl (set3_blk HQ8.out.1) Tryz.underlying39 rfl (by kernel_rfl)
    rw [HR2.out]
    exact ⟨v0, _, _, rfl, LK.nil _ _ _, LK.nil _ _ _, below_set3 B8.out (Nat.le_refl _) _ _ _⟩
   | true =>
    obtain ⟨wd, hwd⟩ : ∃ wd, wd = t.f1.f0 := ⟨_, rfl⟩
    have HR2 : Aside0 (rr = ((ftV X.l0 (I.x : Int)).2.2, (ftV X.l0 (I.x : Int)).1 ++ [⟨if wd then 2 else 1, false, 0⟩], (ftV X.l0 (I.x : Int)).2.1)) := ⟨by rw [HR1.out, ← HB.out, hwd]; rfl⟩
    have u3 : (w8.setCell ⟨w.heap.size + 1, 0, none⟩ (.int .i64 1)).cell? ⟨w5.heap.size, 3, none⟩ = some (.bool wd) := by
     have h_ := (chg_set w8 (w.heap.size + 1) 0 (.int .i64 1)).blk QT8.out (by have := LQ.out; omega)
     rw [hwd]
     exact (blk_cell h_ 3).trans rfl
    have hxv : NV64 (I.x : Int) := by have := HX.out.x32; constructor <;> omega
    clear HR1 hwd
    have p0 : w8.cell? ⟨w.heap.size + 1, 0, none⟩ = some (.int .i64 0) := (blk_cell HQ8.out.2 0).trans rfl
    have f0 : w8.frozen? ⟨w.heap.size + 1, 0, none⟩ = false := blk_frozen HQ8.out.2 0
    have lp : w.heap.size + 1 < w8.heap.size := blk_lt HQ8.out.2
    obtain ⟨x, ex⟩ : ∃ x : S39, x = ⟨if wd then 2 else 1, false, 0⟩ := ⟨_, rfl⟩
    rw [← ex] at HR2
    have EX := Aside0.mk ex
    clear ex
    cases wd
    all_goals
     go_upto_region 20 with fail
     first
     | (obtain ⟨w4, hw4⟩ : ∃ w4, (w8.setCell ⟨w.heap.size + 1, 0, none⟩ (.int .i64 1)).setCell ⟨w.heap.size + 1, 0, none⟩ (.int .i64 2) = w4 := ⟨_, rfl⟩; rw [hw4]; have B4 : Aside0 (Below w.heap.size w w4) := ⟨by rw [← hw4]; exact ((B8.out.setCell (Nat.le_succ _) _).setCell (Nat.le_succ _) _)⟩; have HQ4 : Aside0 (w4.heap[w.heap.size]? = some (.cells #[.int .i64 0, .bool false, .int .i64 0] 39 (0, 0)) ∧ w4.heap[w.heap.size + 1]? = some (.cells #[.int .i64 x.f0, .bool x.f1, .int .i64 x.f2] 39 (0, 0))) := ⟨by rw [← hw4, EX.out]; exact ⟨(chg_set _ (w.heap.size + 1) 0 _).blk ((chg_set w8 (w.heap.size + 1) 0 _).blk HQ8.out.1 (by omega)) (by omega), by have h_ := blk_set (blk_set HQ8.out.2 0 (.int .i64 1)) 0 (.int .i64 2); simpa using h_⟩⟩; clear hw4)
     | (obtain ⟨w4, hw4⟩ : ∃ w4, w8.setCell ⟨w.heap.size + 1, 0, none⟩ (.int .i64 1) = w4 := ⟨_, rfl⟩; rw [hw4]; have B4 : Aside0 (Below w.heap.size w w4) := ⟨by rw [← hw4]; exact (B8.out.setCell (Nat.le_succ _) _)⟩; have HQ4 : Aside0 (w4.heap[w.heap.size]? = some (.cells #[.int .i64 0, .bool false, .int .i64 0] 39 (0, 0)) ∧ w4.heap[w.heap.size + 1]? = some (.cells #[.int .i64 x.f0, .bool x.f1, .int .i64 x.f2] 39 (0, 0))) := ⟨by rw [← hw4, EX.out]; exact ⟨(chg_set w8 (w.heap.size + 1) 0 _).blk HQ8.out.1 (by omega), by have h_ := blk_set HQ8.out.2 0 (.int .i64 1); simpa using h_⟩⟩; clear hw4)
     have g4 : (x.f0 == 0) = false := by rw [EX.out]; rfl
     have g5 : (x.f0 != 0) = true := by rw [EX.out]; rfl
     clear u3 p0 f0 lp HQ8
     have hkn := HK.out.below B4.out
     have KF := vFuncType_own X.A0 X.c0 X.l0 X.A1 X.c1 X.l1 X.A2 X.c2 X.l2 X.A3 X.c3 X.l3 X.A4 X.c4 X.l4 X.A5 X.c5 X.l5 X.A6 X.c6 X.l6 X.d7 X.A8 X.c8 X.l8 (I.x : Int) w4 (HX.out.xin.below hkn.bel) hxv
     have y0 : w4.cell? ⟨kb, 0, none⟩ = some (.slice X.A0 X.l0.length X.c0) := (blk_cell hkn.box 0).trans rfl
     have y1 : w4.cell? ⟨kb, 1, none⟩ = some (.slice X.A1 X.l1.length X.c1) := (blk_cell hkn.box 1).trans rfl
     have y2 : w4.cell? ⟨kb, 2, none⟩ = some (.slice X.A2 X.l2.length X.c2) := (blk_cell hkn.box 2).trans rfl
     have y3 : w4.cell? ⟨kb, 3, none⟩ = some (.slice X.A3 X.l3.length X.c3) := (blk_cell hkn.box 3).trans rfl
     have y4 : w4.cell? ⟨kb, 4, none⟩ = some (.slice X.A4 X.l4.length X.c4) := (blk_cell hkn.box 4).trans rfl
     have y5 : w4.cell? ⟨kb, 5, none⟩ = some (.slice X.A5 X.l5.length X.c5) := (blk_cell hkn.box 5).trans rfl
     have y6 : w4.cell? ⟨kb, 6, none⟩ = some (.slice X.A6 X.l6.length X.c6) := (blk_cell hkn.box 6).trans rfl
     have y7 : w4.cell? ⟨kb, 7, none⟩ = some (.int .i64 X.d7) := (blk_cell hkn.box 7).trans rfl
     have y8 : w4.cell? ⟨kb, 8, none⟩ = some (.slice X.A8 X.l8.length X.c8) := (blk_cell hkn.box 8).trans rfl
     clear hkn
     go_wp2_with fail
     refine KF.mono ?_
     rintro e w5 ⟨v1, v2, rfl, q1, q2, hb⟩
     have V1 := Aside0.mk q1
     have V2 := Aside0.mk q2
     have B5 := Aside0.mk (B4.out.trans (hb.mono B4.out.size))
     have HQ5 := Aside0.mk (And.intro (blk_below HQ4.out.1 hb) (blk_below HQ4.out.2 hb))
     have SZ4 : Aside0 (∀ y, (S y ∨ D y) ∨ y = w.heap.size → y < w4.heap.size) := ⟨(fun y e => e.elim (fun e => Nat.lt_of_lt_of_le (HLT.out y e) B4.out.size) (fun e => by rw [e]; exact blk_lt HQ4.out.1))⟩
     clear KF q1 q2 hb y0 y1 y2 y3 y4 y5 y6 y7 y8
     clear hxv
     obtain ⟨A, c, ev, hlc, _⟩ := V1.out
     subst ev
     have L1 := Aside0.mk (V1.out.lk SZ4.out)
     obtain ⟨m, hm⟩ : ∃ m, m = (ftV X.l0 (I.x : Int)).1.length := ⟨_, rfl⟩
     have HM := Aside0.mk hm
     rw [← hm] at L1 ⊢
     have x0 : w5.cell? ⟨w.heap.size + 1, 0, none⟩ = some (.int .i64 x.f0) := (blk_cell HQ5.out.2 0).trans rfl
     clear hlc hm
     go_wp2_with fail
     obtain ⟨w6, hw6⟩ : ∃ w6, World.drew w5 = w6 := ⟨_, rfl⟩
     have b6 : Below w5.heap.size w5 w6 := by rw [← hw6]; exact (Below.refl _ _).drew
     have L6 := Aside0.mk (L1.out.below b6)
     have HQ6 := Aside0.mk (And.intro (blk_below HQ5.out.1 b6) (blk_below HQ5.out.2 b6))
     have B6 := Aside0.mk (B5.out.trans (b6.mono B5.out.size))
     have V26 := Aside0.mk ((V2.out.lk SZ4.out).below b6)
     have FL := Aside0.mk (ftV_len X.l0 HX.out.xin.bulk (I.x : Int))
     have a0 : w6.cell? ⟨w.heap.size + 1, 0, none⟩ = some (.int .i64 x.f0) := (blk_cell HQ6.out.2 0).trans rfl
     have a1 : w6.cell? ⟨w.heap.size + 1, 1, none⟩ = some (.bool x.f1) := (blk_cell HQ6.out.2 1).trans rfl
     have a2 : w6.cell? ⟨w.heap.size + 1, 2, none⟩ = some (.int .i64 x.f2) := (blk_cell HQ6.out.2 2).trans rfl
     clear b6 x0 V1 V2 HQ5
     refine start_ (n := 6) (S := fun w' => w'.cell? ⟨w.heap.size + 1, 0, none⟩ = some (.int .i64 x.f0) ∧ w'.cell? ⟨w.heap.size + 1, 1, none⟩ = some (.bool x.f1) ∧ w'.cell? ⟨w.heap.size + 1, 2, none⟩ = some (.int .i64 x.f2)) (ds := [4]) (bm_ 6 0) (by kernel_rfl) rfl rfl ⟨(by rw [hw6]; exact a0), (by rw [hw6]; exact a1), (by rw [hw6]; exact a2)⟩ (fun hHeld => ?_)
     rw [hw6] at hHeld ⊢
     clear hw6 
     refine pz_ 0 108 6 1 ?_
     refine tz_ 2 110 6 5 hHeld ?_
     refine join_ (σ := Value × Nat) 2 (bm_ 6 15) (fun s_ => [(109, s_.1), (111, .slice (some ⟨s_.2, 0, none⟩) 1 1)]) (fun s_ w' => PF w6 (ftV X.l0 (I.x : Int)).1 [.int .i64 x.f0, .bool x.f1, .int .i64 x.f2] s_ w') ?_ ?_
     rotate_left
     ·intro hCont
      refine two_ (i := 1) (j := 3) (Ni := some 109) (Nj := some 111) (bm_ 6 7) (bm_ 6 13) rfl rfl rfl rfl (by kernel_rfl) (by decide) (by decide) (fun K hK => ?_) (fun K hK => ?_)
      ·skip
       have KL := clone_calls (fun y => (S y ∨ D y) ∨ y = w.heap.size) (ftV X.l0 (I.x : Int)).1 (v := .slice A m c) w6 L6.out (by have := FL.out.1; omega)
       refine gz_ Tryz.func76 #[.slice A m c] ?_
       with_reducible refine (KL).mono ?_
       rintro e w7 ⟨v7, rfl, hr_, hb0_⟩
       have g_ : _ ∧ _ ∧ _ := ⟨hb0_.kp hHeld.1, hb0_.kp hHeld.2.1, hb0_.kp hHeld.2.2⟩
       refine ⟨_, rfl, ?_⟩
       refine hK.out _ _ ⟨g_.1, g_.2.1, g_.2.2⟩ (fun hHeld => ?_)
       clear hK K
       refine nz_ ?_
       refine oz_ 3 111 6 15 fun K hK => ?_
       refine vz_ ?_
       have hb_ := (Below.refl _ _).alloc (w := w7) (Nat.le_refl _) (.cells #[.int .i64 x.f0, .bool x.f1, .int .i64 x.f2] 39)
       have g_ : _ ∧ _ ∧ _ := ⟨hb_.kp hHeld.1, hb_.kp hHeld.2.1, hb_.kp hHeld.2.2⟩
       refine hK.out _ _ ⟨g_.1, g_.2.1, g_.2.2⟩ (fun hHeld => ?_)
       clear hK K
       refine nz_ ?_
       exact norm_ (by simp only [putAll, Act.put, List.setIfInBounds_toArray, List.set_cons_zero, List.set_cons_succ]) (hCont (_, _) _ (PF.a hr_ hb0_))
      ·skip
       refine vz_ ?_
       have hb_ := (Below.refl _ _).alloc (w := w6) (Nat.le_refl _) (.cells #[.int .i64 x.f0, .bool x.f1, .int .i64 x.f2] 39)
       have g_ : _ ∧ _ ∧ _ := ⟨hb_.kp hHeld.1, hb_.kp hHeld.2.1, hb_.kp hHeld.2.2⟩
       refine hK.out _ _ ⟨g_.1, g_.2.1, g_.2.2⟩ (fun hHeld => ?_)
       clear hK K
       refine nz_ ?_
       refine oz_ 1 109 6 15 fun K hK => ?_
       have KL := clone_calls (fun y => (S y ∨ D y) ∨ y = w.heap.size) (ftV X.l0 (I.x : Int)).1 (v := .slice A m c) (w6.alloc (.cells #[.int .i64 x.f0, .bool x.f1, .int .i64 x.f2] 39)) (L6.out.below (bz_)) (by have := FL.out.1; omega)
       refine gz_ Tryz.func76 #[.slice A m c] ?_
       with_reducible refine (KL).mono ?_
       rintro e w7 ⟨v7, rfl, hr_, hb_⟩
       have g_ : _ ∧ _ ∧ _ := ⟨hb_.kp hHeld.1, hb_.kp hHeld.2.1, hb_.kp hHeld.2.2⟩
       refine ⟨_, rfl, ?_⟩
       refine hK.out _ _ ⟨g_.1, g_.2.1, g_.2.2⟩ (fun hHeld => ?_)
       clear hK K
       refine nz_ ?_
       exact norm_ (by simp only [putAll, Act.put, List.setIfInBounds_toArray, List.set_cons_zero, List.set_cons_succ]) (hCont (_, _) _ (PF.b hr_ hb_))
     rintro ⟨v7, by_⟩ w7 hpf
     have hb_ := hpf.2.2
     have hHeld : w7.cell? ⟨w.heap.size + 1, 0, none⟩ = some (.int .i64 x.f0) ∧ _ ∧ _ := ⟨hb_.kp a0, hb_.kp a1, hb_.kp a2⟩
     have PFo := Aside0.mk hpf
     obtain ⟨A7, c7, ev7⟩ := Kd.R_slice hpf.1
     dsimp only at ev7
     subst ev7
     clear hpf hb_
     refine norm_ (a' := ?_) ?_ ?_
     rotate_left
     ·simp only [putAll, Act.put, List.setIfInBounds_toArray, List.set_cons_zero, List.set_cons_succ]
      rfl
     refine lz_ 4 112 6 31 fun K hK => ?_
     refine Kd.R_append_rows_step k39 (Rr := k39.K w7) (w0 := w6) w6.heap.size (by rfl) (.tmp 109) (.tmp 111) 27 39 (.agg #[.int .i64 0, .bool false, .int .i64 0]) 24 rfl Tryz.underlying27 info39 rfl (by decide) (by decide) (.slice A7 (ftV X.l0 (I.x : Int)).1.length c7) (ftV X.l0 (I.x : Int)).1 [x] (some ⟨by_, 0, none⟩) 1 1 (fun _ => True) (fun _ => False) rfl rfl PFo.out.1 (box_reads x PFo.out.2.1) (fun y cs hk => by rw [k39_open hk]; exact k39_mkM _ _ _ y) (fun _ hk => hk.elim) (fun _ _ => trivial) PFo.out.2.2 PFo.out.2.2.size (by have := FL.out.1; omega) ?_
     intro v8 w8 hr8 hb8 hg8 _
     have R8 := Aside0.mk hr8
     have B8 := Aside0.mk hb8
     clear hr8 hb8 hg8
     refine hK.out _ _ ?_
     clear hK K
     refine nz_ ?_
     refine pz_ 5 9 6 63 ?_
     refine dz_ ?_
     have HQ8 := Aside0.mk (And.intro (blk_below HQ6.out.1 B8.out) (blk_below HQ6.out.2 B8.out))
     have B9 := Aside0.mk (B6.out.trans (B8.out.mono B6.out.size))
     have V28 := Aside0.mk (V26.out.below B8.out)
     have SZ6 : Aside0 (∀ y, (S y ∨ D y) ∨ y = w.heap.size → y < w6.heap.size) := ⟨fun y e => e.elim (fun e => Nat.lt_of_lt_of_le (HLT.out y e) B6.out.size) (fun e => by rw [e]; exact blk_lt HQ6.out.1)⟩
     clear a0 a1 a2
     have x0 : w8.cell? ⟨w.heap.size + 1, 0, none⟩ = some (.int .i64 x.f0) := (blk_cell HQ8.out.2 0).trans rfl
     have x1 : w8.cell? ⟨w.heap.size + 1, 1, none⟩ = some (.bool x.f1) := (blk_cell HQ8.out.2 1).trans rfl
     have x2 : w8.cell? ⟨w.heap.size + 1, 2, none⟩ = some (.int .i64 x.f2) := (blk_cell HQ8.out.2 2).trans rfl
     have p0 : w8.cell? ⟨w.heap.size, 0, none⟩ = some (.int .i64 0) := (blk_cell HQ8.out.1 0).trans rfl
     have p1 : w8.cell? ⟨w.heap.size, 1, none⟩ = some (.bool false) := (blk_cell HQ8.out.1 1).trans rfl
     have p2 : w8.cell? ⟨w.heap.size, 2, none⟩ = some (.int .i64 0) := (blk_cell HQ8.out.1 2).trans rfl
     have f0 : w8.frozen? ⟨w.heap.size, 0, none⟩ = false := blk_frozen HQ8.out.1 0
     have f1 : w8.frozen? ⟨w.heap.size, 1, none⟩ = false := blk_frozen HQ8.out.1 1
     have f2 : w8.frozen? ⟨w.heap.size, 2, none⟩ = false := blk_frozen HQ8.out.1 2
     have lp : w.heap.size < w8.heap.size := blk_lt HQ8.out.1
     go_wp2_with fail
     refine bodyPost_ret (v := .tuple #[.agg #[.int .i64 x.f0, .bool x.f1, .int .i64 x.f2], v8, v2, .int .i64 (ftV X.l0 (I.x : Int)).2.2]) ?_ rfl ?_
     ·exact results_cttt (p := 2) (u := 3) (v := 4) (y := 5) rfl _ _ w.heap.size 39 #[.int .i64 x.f0, .bool x.f1, .int .i64 x.f2] (0, 0) _ rfl (set3_blk HQ8.out.1) Tryz.underlying39 rfl (by kernel_rfl)
     rw [HR2.out]
     exact ⟨x, v8, v2, rfl, (lk_set3 (LK.fresh R8.out SZ6.out) (.inr rfl) _ _ _).mono (fun _ e => .inl e), (lk_set3 V28.out (.inr rfl) _ _ _).mono (fun _ e => .inl e), below_set3 B9.out (Nat.le_refl _) _ _ _⟩
theorem vcalled_calls (h : St D S g k w) (hk : KI w1 D S kb g X I w) (hx : XK w1 X I) (hG : GOk X.l0) (hop : I.op = 16 ∨ I.op = 17 ∨ I.op = 18 ∨ I.op = 19 ∨ I.op = 20 ∨ I.op = 21) : Calls Tryz.prog 128 #[.pointer (some ⟨kb, 0, none⟩)] w (CalOut (fun x => S x ∨ D x) (calledM X I) w) := by
 rcases hop with h_ | h_ | h_ | h_ | h_ | h_
 ·exact vcalled_f h hk hx hG (.inl h_)
 ·exact vcalled_y h hk hx hG (.inl h_)
 ·exact vcalled_f h hk hx hG (.inr h_)
 ·exact vcalled_y h hk hx hG (.inr h_)
 ·exact vcalled_t h hk hx hG (.inl h_)
 ·exact vcalled_t h hk hx hG (.inr h_)
end
section
variable {w1 w w' : World} {D S S' : Nat → Prop} {kb g : Nat} {X : CX} {I : IX} {k k' : Chk} {f : Fr}
theorem calledM_len (hx : XK w1 X I) : (calledM X I).2.1.length ≤ 1048577 ∧ (calledM X I).2.2.length ≤ 1048576 := by
 have hl := fun n => ftV_len X.l0 hx.xin.bulk n
 unfold calledM
 repeat' split
 all_goals first
  | exact ⟨Nat.zero_le _, Nat.zero_le _⟩
  | (rename_i n _; have := hl n; exact ⟨by dsimp only; omega, this.2⟩)
  | (have := hl (I.x : Int); exact ⟨by dsimp only; rw [List.length_append]; simp; omega, this.2⟩)
set_option maxHeartbeats 4000000 in
theorem vCall_calls (h : St D S g k w) (hF : Fit k f) (hk : KI w1 D S kb g X I w) (hx : XK w1 X I) (hG : GOk X.l0) (hop : I.op = 16 ∨ I.op = 17 ∨ I.op = 18 ∨ I.op = 19 ∨ I.op = 20 ∨ I.op = 21) : Calls Tryz.prog 95 #[.pointer (some ⟨kb, 0, none⟩)] w (SOut D S g (callM X I k f) w) := by
 obtain ⟨er, l1, l2, hr⟩ : ∃ er l1 l2, calledM X I = (er, l1, l2) := ⟨_, _, _, rfl⟩
 have hll := calledM_len hx
 have K := vcalled_calls h hk hx hG hop
 obtain ⟨rr, hrr⟩ : ∃ rr, rr = callM X I k f := ⟨_, rfl⟩
 have HR : Aside0 (rr = if er = 0 then swapM k f l1 l2 else (er, k)) := ⟨by rw [hrr]; unfold callM; rw [hr]⟩
 rw [← hrr]
 rw [hr] at K hll
 clear hrr hr hop
 have H := Aside0.mk h
 have HF := Aside0.mk hF
 have HK := Aside0.mk hk
 have HX := Aside0.mk hx
 have HG := Aside0.mk hG
 have HL := Aside0.mk hll
 have HE : Aside0 (er = 0 ∨ er ≠ 0) := ⟨Decidable.em _⟩
 clear h hF hk hx hG hll
 go_enter Tryz.func95, Tryz.ntmps95
 go_wp2_with fail
 refine K.mono ?_
 rintro e w3 ⟨x, v1, v2, rfl, h1, h2, hb⟩
 obtain ⟨A1, c1, rfl⟩ := h1.slice
 obtain ⟨A2, c2, rfl⟩ := h2.slice
 obtain ⟨w4, hw4⟩ : ∃ w4, w4 = w3.alloc (.cells #[.int .i64 x.f0, .bool x.f1, .int .i64 x.f2] 39) := ⟨_, rfl⟩
 have b4 : Below w3.heap.size w3 w4 := by rw [hw4]; exact bz_
 have B4 := Aside0.mk (hb.trans (b4.mono hb.size))
 have L1 := Aside0.mk (h1.below b4)
 have L2 := Aside0.mk (h2.below b4)
 clear h1 h2 hb b4 K
 dsimp only at HL L1 L2
 rcases HE.out with he | he
 rotate_left
 ·have HR2 : Aside0 (rr = (er, k)) := ⟨by rw [HR.out, if_neg he]⟩
  have g0 : (er == 0) = false := beq_eq_false_iff_ne.mpr he
  have g1 : (er != 0) = true := bne_iff_ne.mpr he
  clear he HR HE
  go_wp2_with fail
  rw [← hw4]
  go_ret
  rw [HR2.out]
  exact ⟨rfl, S, (Kst.refl H.out).below B4.out⟩
 subst he
 have HR2 : Aside0 (rr = swapM k f l1 l2) := ⟨by rw [HR.out, if_pos rfl]⟩
 clear HR HE
 have KS := vswap_calls (H.out.below B4.out) HF.out L1.out L2.out (by have := HL.out.1; omega) (by have := HL.out.2; omega)
 rw [← HR2.out] at KS
 have z9 : (w3.alloc (.cells #[.int .i64 x.f0, .bool x.f1, .int .i64 x.f2] 39)).cell? ⟨kb, 9, none⟩ = some (.pointer (some ⟨g, 0, none⟩)) := by rw [← hw4]; exact (HK.out.below B4.out).pc
 go_wp2_with fail
 rw [← hw4]
 clear hw4 z9
 unfold SOut at KS
 refine KS.mono ?_
 rintro e w5 ⟨rfl, S5, q5⟩
 have Q5 := Aside0.mk (q5.ahead B4.out)
 clear KS q5
 go_wp2_with fail
 go_ret
 exact ⟨rfl, S5, Q5.out⟩
set_option maxHeartbeats 4000000 in
theorem vTail_calls (h : St D S g k w) (hF : Fit k f) (hk : KI w1 D S kb g X I w) (hx : XK w1 X I) (hG : GOk X.l0) (hop : I.op = 16 ∨ I.op = 17 ∨ I.op = 18 ∨ I.op = 19 ∨ I.op = 20 ∨ I.op = 21) : Calls Tryz.prog 96 #[.pointer (some ⟨kb, 0, none⟩)] w (SOut D S g (tailM X I k f) w) := by
 obtain ⟨er, l1, l2, hr⟩ : ∃ er l1 l2, calledM X I = (er, l1, l2) := ⟨_, _, _, rfl⟩
 have hll := calledM_len hx
 have K := vcalled_calls h hk hx hG hop
 obtain ⟨rr, hrr⟩ : ∃ rr, rr = tailM X I k f := ⟨_, rfl⟩
 have HR : Aside0 (rr = if er = 0 then (if valsM X.l0 l2 k.results then awayM k f l1 else (131, k)) else (er, k)) := ⟨by rw [hrr]; unfold tailM; rw [hr]⟩
 rw [← hrr]
 rw [hr] at K hll
 clear hrr hr hop
 have H := Aside0.mk h
 have HF := Aside0.mk hF
 have HK := Aside0.mk hk
 have HX := Aside0.mk hx
 have HG := Aside0.mk hG
 have HL := Aside0.mk hll
 have HE : Aside0 (er = 0 ∨ er ≠ 0) := ⟨Decidable.em _⟩
 clear h hF hk hx hG hll
 go_enter Tryz.func96, Tryz.ntmps96
 go_wp2_with fail
 refine K.mono ?_
 rintro e w3 ⟨x, v1, v2, rfl, h1, h2, hb⟩
 obtain ⟨A1, c1, rfl⟩ := h1.slice
 obtain ⟨A2, c2, rfl⟩ := h2.slice
 obtain ⟨w4, hw4⟩ : ∃ w4, w4 = w3.alloc (.cells #[.int .i64 x.f0, .bool x.f1, .int .i64 x.f2] 39) := ⟨_, rfl⟩
 have b4 : Below w3.heap.size w3 w4 := by rw [hw4]; exact bz_
 have B4 := Aside0.mk (hb.trans (b4.mono hb.size))
 have L1 := Aside0.mk (h1.below b4)
 have L2 := Aside0.mk (h2.below b4)
 clear h1 h2 hb b4 K
 dsimp only at HL L1 L2
 rcases HE.out with he | he
 rotate_left
 ·have HR2 : Aside0 (rr = (er, k)) := ⟨by rw [HR.out, if_neg he]⟩
  have g0 : (er == 0) = false := beq_eq_false_iff_ne.mpr he
  have g1 : (er != 0) = true := bne_iff_ne.mpr he
  clear he HR HE
  go_wp2_with fail
  rw [← hw4]
  go_ret
  rw [HR2.out]
  exact ⟨rfl, S, (Kst.refl H.out).below B4.out⟩
 subst he
 have HR1 : Aside0 (rr = if valsM X.l0 l2 k.results then awayM k f l1 else (131, k)) := ⟨by rw [HR.out, if_pos rfl]⟩
 clear HR HE
 go_wp2_with fail
 obtain ⟨w5, hw5⟩ : ∃ w5, World.drew (w3.alloc (.cells #[.int .i64 x.f0, .bool x.f1, .int .i64 x.f2] 39)) = w5 := ⟨_, rfl⟩
 have b5 : Below w4.heap.size w4 w5 := by rw [← hw5, ← hw4]; exact (Below.refl _ _).drew
 have B5 := Aside0.mk (B4.out.trans (b5.mono B4.out.size))
 have hk5 := HK.out.below B5.out
 have M1 := Aside0.mk (L1.out.below b5)
 have M2 := Aside0.mk (L2.out.below b5)
 have KR := kResults_calls (H.out.below B5.out) (by have := HF.out.res; omega)
 have HK5 := Aside0.mk hk5
 have z0 : w5.cell? ⟨kb, 0, none⟩ = some (.slice X.A0 X.l0.length X.c0) := (blk_cell hk5.box 0).trans rfl
 have z9 : w5.cell? ⟨kb, 9, none⟩ = some (.pointer (some ⟨g, 0, none⟩)) := hk5.pc
 obtain ⟨b, hbv⟩ : ∃ b, b = valsM X.l0 l2 k.results := ⟨_, rfl⟩
 have HB := Aside0.mk hbv
 clear hk5 b5 hw4 hbv
 refine start_ (n := 13) (S := fun w' => w'.cell? ⟨kb, 0, none⟩ = some (.slice X.A0 X.l0.length X.c0) ∧ w'.cell? ⟨kb, 9, none⟩ = some (.pointer (some ⟨g, 0, none⟩))) (ds := [11]) (bm_ 13 0) (by kernel_rfl) rfl rfl ⟨(by rw [hw5]; exact z0), (by rw [hw5]; exact z9)⟩ (fun hHeld => ?_)
 rw [hw5] at hHeld ⊢
 clear hw5 z0 z9
 refine pz_ 0 17 13 1 ?_
 refine pz_ 1 18 13 3 ?_
 refine pz_ 2 19 13 7 ?_
 refine pz_ 3 20 13 15 ?_
 refine pz_ 5 22 13 47 ?_
 refine pz_ 6 23 13 111 ?_
 refine pz_ 7 24 13 239 ?_
 refine pz_ 8 25 13 495 ?_
 refine tz_ 4 21 13 511 hHeld ?_
 refine tz_ 9 26 13 1023 hHeld ?_
 refine oz_ 10 27 13 2047 fun K hK => ?_
 refine gz_ Tryz.func127 #[.pointer (some ⟨g, 0, none⟩)] ?_
 with_reducible refine (KR).mono ?_
 rintro e w6 ⟨v6, rfl, h6, hb6⟩
 obtain ⟨A6, c6, rfl⟩ := h6.slice
 have L6 := Aside0.mk h6
 have B6 := Aside0.mk hb6
 have B7 := Aside0.mk (B5.out.trans (hb6.mono B5.out.size))
 clear h6 hb6 KR
 refine ⟨_, rfl, ?_⟩
 refine hK.out _ _ ⟨B6.out.kp hHeld.1, B6.out.kp hHeld.2⟩ (fun hHeld => ?_)
 clear hK K
 refine nz_ ?_
 refine lz_ 11 28 13 4095 fun K hK => ?_
 have KV := subVals_calls HG.out (HG.out.la ((HK5.out.below B6.out).lent k132_heap HX.out.xin.h0 HX.out.xin.r0)) (H.out.below B7.out).tab A2 c2 l2 A6 c6 k.results (M2.out.below B6.out).reads.2.2 L6.out.reads.2.2 (by have := HL.out.2; omega)
 rw [← HB.out] at KV
 refine gz_ Tryz.func46 #[.slice X.A0 X.l0.length X.c0, .slice A2 l2.length c2, .slice A6 k.results.length c6] ?_
 with_reducible refine (KV).mono ?_
 rintro e w7 ⟨rfl, hb7⟩
 have B8 := Aside0.mk (B7.out.trans (hb7.mono B7.out.size))
 have B76 := Aside0.mk (B6.out.trans (hb7.mono B6.out.size))
 clear hb7 KV
 refine ⟨_, rfl, ?_⟩
 refine hK.out _ _ ?_
 clear hK K
 refine nz_ ?_
 refine pz_ 12 29 13 8191 ?_
 refine dz_ ?_
 cases b with
 | false =>
  have HR2 : Aside0 (rr = (131, k)) := ⟨by rw [HR1.out, ← HB.out]; rfl⟩
  clear HR1
  go_wp2_with fail
  go_ret
  rw [HR2.out]
  exact ⟨rfl, S, (Kst.refl H.out).below B8.out⟩
 | true =>
  have HR2 : Aside0 (rr = awayM k f l1) := ⟨by rw [HR1.out, ← HB.out]; rfl⟩
  clear HR1
  have KA := vaway_calls (H.out.below B8.out) HF.out (HK.out.below B8.out) (M1.out.below B76.out) (by have := HL.out.1; omega)
  rw [← HR2.out] at KA
  go_wp2_with fail
  unfold SOut at KA
  refine KA.mono ?_
  rintro e w9 ⟨rfl, S9, q9⟩
  have Q9 := Aside0.mk (q9.ahead B8.out)
  clear KA q9
  go_wp2_with fail
  go_ret
  exact ⟨rfl, S9, Q9.out⟩
end
end Go.Proofs.YtohlmkcgempdlaaGreatDoor.Cn
