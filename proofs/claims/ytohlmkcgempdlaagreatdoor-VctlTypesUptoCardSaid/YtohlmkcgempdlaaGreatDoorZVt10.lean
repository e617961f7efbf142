/- Parts of the proof of vctlTypes_holds (10 of 12): what it says and shows stands at its declarations. -/
import Derived.Test.YtohlmkcgempdlaaGreatDoorZVt9
import Derived.Sort.OwnSortedInts
namespace Go.Proofs.YtohlmkcgempdlaaGreatDoor.Cn
set_option linter.unusedSimpArgs false
set_option linter.unusedVariables false
open Go.RowKit Go.Maps Go.Proofs.YtohlmkcgempdlaaGreatDoorW.PrintWords Go.Proofs.YtohlmkcgempdlaaGreatDoorW.PrintLast Go.Proofs.YtohlmkcgempdlaaGreatDoorW.PrintMore Go.Proofs.YtohlmkcgempdlaaGreatDoor.QD
theorem next_ranges_iv (w : World) {ops : Array Oper} {rest : List Oper} {o : Oper} {a : Act} {Q : Exit → Act → World → Prop} (hg : o.guard = none) (it : Operand) (hop : o.op = Op.next it false)
    (b r n : Nat) (D : DataW Unit) (left : Lit → Bool) (cnt : Nat) (hit : a.eval it = .pointer (some ⟨r, 0, none⟩)) (h : w.ranges Tryz.prog 3 RN b r n D left cnt)
    (hDone : cnt = 0 → (∀ kl, left kl = false) → wpList Tryz.prog ops Q rest (a.put o.dst (.tuple #[.bool false])) w)
    (hMore : ∀ (x : Int) (c : Value) (w' : World) (cnt' : Nat), left (.int .i64 x) = true → w'.ranges Tryz.prog 3 RN b r n D (fun z => left z && !z.sameKey (.int .i64 x)) cnt' → cnt' < cnt →
      w.grownBy w' (some r) → w'.heap.size = w.heap.size → (Instr.entry (.pointer (some ⟨r, 0, none⟩))).run Tryz.prog w' = .ok (.tuple #[.int .i64 x, c]) w' → wpList Tryz.prog ops Q rest (a.put o.dst (.tuple #[.bool true, .int .i64 x, c])) w') :
    wpList Tryz.prog ops Q (o :: rest) a w :=
  wpList_next_ranges w hg it hop 3 keyLaw RN (Value.int .i64) id (fun key kl hkey => by obtain ⟨x, rfl, _⟩ := Maps.keyOf_int_inv Tryz.underlying3 hkey; exact ⟨x, rfl⟩) (fun v y hv => ⟨v, rfl⟩)
    b r n D left cnt hit h hDone (fun x c kl y w' cnt' hkey hlk hv hat hrg hlt hgr hsz hen => by
      obtain ⟨x', ex, rfl, hwx⟩ := Maps.keyOf_int_inv Tryz.underlying3 hkey
      cases ex
      exact hMore x c w' cnt' hlk hrg hlt hgr hsz hen)
/-- The keys that are still to come, behind those that came. -/
structure LO (left : Lit → Bool) (p : List Int) : Prop where
  left : ∀ x : Int, left (.int .i64 x) = true ↔ x ∈ OPS ∧ x ∉ p
  sub : ∀ x ∈ p, x ∈ OPS
  nodup : p.Nodup
theorem LO.start : LO (Maps.has (DN OPS)) [] := by
  refine ⟨fun x => ?_, (fun x h => nomatch h), List.nodup_nil⟩
  unfold DN
  rw [Maps.has_eq, List.any_map, List.any_eq_true]
  simp only [Function.comp, Lit.sameKey, List.not_mem_nil, not_false_eq_true, and_true, decide_eq_true_eq]
  constructor
  · rintro ⟨y, hy, h⟩
    rw [← h.2]
    exact hy
  · intro h
    exact ⟨x, h, by simp⟩
theorem LO.step {left : Lit → Bool} {p : List Int} (h : LO left p) {x : Int} (hx : left (.int .i64 x) = true) : LO (fun z => left z && !z.sameKey (.int .i64 x)) (p ++ [x]) := by
  obtain ⟨h1, h2⟩ := (h.left x).1 hx
  refine ⟨fun y => ?_, fun y hy => ?_, ?_⟩
  · simp only [Bool.and_eq_true, h.left, Lit.sameKey, Bool.not_eq_true', decide_eq_false_iff_not, true_and, List.mem_append, List.mem_singleton, not_or]
    constructor
    · rintro ⟨⟨a, b⟩, c⟩; exact ⟨a, b, fun e => c (by simp [e])⟩
    · rintro ⟨a, b, c⟩; exact ⟨⟨a, b⟩, fun e => c (by simpa using e)⟩
  · rcases List.mem_append.1 hy with hy | hy
    · exact h.sub y hy
    · rw [List.mem_singleton.1 hy]; exact h1
  · rw [List.nodup_append]
    refine ⟨h.nodup, by simp, fun a ha b hb => ?_⟩
    rw [List.mem_singleton.1 hb]
    rintro rfl
    exact h2 ha
theorem LO.sorted {left : Lit → Bool} {p : List Int} (h : LO left p) (hd : ∀ kl, left kl = false) : (p.mergeSort fun x y => decide (x ≤ y)) = OPS := by
  have hp : p.Perm OPS := (List.perm_ext_iff_of_nodup h.nodup (by decide)).2 (fun a => ⟨h.sub a, fun ha => Decidable.byContradiction fun hn => by
    have := (h.left a).2 ⟨ha, hn⟩
    rw [hd] at this
    cases this⟩)
  refine List.Perm.eq_of_pairwise (le := fun a b : Int => a ≤ b) (fun a b _ _ h1 h2 => by omega) ?_ (by decide) ((List.mergeSort_perm p _).trans hp)
  have := List.pairwise_mergeSort (le := fun x y : Int => decide (x ≤ y)) (fun a b c h1 h2 => by simp at *; omega) (fun a b => by simp; omega) p
  exact this.imp (fun h => by simpa using h)
theorem step_ops {w w2 wr w3 w4 : World} {b it cnt1 : Nat} {left1 : Lit → Bool} {v : Value} (hob : ∀ k_, v.ownBlock = some k_ → w2.heap.size ≤ k_) (s1 : w2.heap.size = it + 1) (s2 : b < it) (s3 : w.heap.size ≤ it)
    (hrg : w3.ranges Tryz.prog 3 RN b it 16 (DN OPS) left1 cnt1) (hbl : Below w.heap.size w wr) (hg1 : wr.grownBy w3 (some it)) (hsz3 : w2.heap.size ≤ w3.heap.size) (hg : w3.grownBy w4 v.ownBlock) :
    w4.ranges Tryz.prog 3 RN b it 16 (DN OPS) left1 cnt1 ∧ Below w.heap.size w w4 ∧ w2.heap.size ≤ w4.heap.size := by
  have hb3 : Below w.heap.size w w3 := hbl.trans ⟨hg1.os, hg1.tape, hg1.output, hg1.size, fun k hk => hg1.block k (Nat.lt_of_lt_of_le hk hbl.size) (by intro e; injection e with e; omega)⟩
  exact ⟨hrg.kept hg (fun e => by have := hob b e.symm; omega) (fun e => by have := hob it e.symm; omega),
    hb3.trans ⟨hg.os, hg.tape, hg.output, hg.size, fun k hk => hg.block k (Nat.lt_of_lt_of_le hk hb3.size) (fun e => by have := hob k e.symm; omega)⟩, Nat.le_trans hsz3 hg.size⟩
set_option maxRecDepth 100000 in
set_option maxHeartbeats 8000000 in
theorem vOps_calls (w : World) : Calls Tryz.prog 26 #[] w fun e w' => ∃ A c, e = .returned (.slice A 16 c) ∧ 16 ≤ c ∧ Kd.C (Kd.int .i64) w' A 16 OPS ∧ Below w.heap.size w w' := by
  have K := vSteps_calls w
  go_enter Tryz.func26, Tryz.ntmps26
  go_wp2_with fail
  refine K.mono ?_
  rintro e w1 ⟨rfl, hM⟩
  have M1 := Aside0.mk hM
  clear hM K
  obtain ⟨b, hb⟩ : ∃ b, b = w.heap.size := ⟨_, rfl⟩
  have HB := Aside0.mk hb
  have OWN : Aside0 (w1.ownsMap Tryz.prog 3 RN b 16 (DN OPS)) := ⟨by rw [hb]; exact M1.out.own⟩
  rw [← hb]
  clear hb
  go_wp2_with (at_range; refine wpList_range_own _ rfl _ 113 rfl 3 111 keyLaw Tryz.underlying113 RN b 16 (DN OPS) rfl OWN.out ?_; intro w2 hrg0 hg0 hs0)
  go_frame
  have BL2 : Aside0 (Below w.heap.size w w2) := ⟨M1.out.bel.trans ⟨hg0.os, hg0.tape, hg0.output, hg0.size, fun k hk => hg0.block k (Nat.lt_of_lt_of_le hk M1.out.bel.size) (by simp)⟩⟩
  have hblt := OWN.out.lt
  obtain ⟨it, hit⟩ : ∃ it, it = w1.heap.size := ⟨_, rfl⟩
  rw [← hit] at hrg0 hs0 hblt ⊢
  have S2 : Aside0 (w2.heap.size = it + 1 ∧ b < it ∧ w.heap.size ≤ it) := ⟨⟨hs0, hblt, by rw [hit]; exact M1.out.bel.size⟩⟩
  have RG := Aside0.mk hrg0
  clear hrg0 hg0 hs0 hblt hit
  go_loopw [1, 2] (fun l _ W => ∃ (A : Option Addr) (c : Nat) (p : List Int) (left : Lit → Bool) (cnt : Nat), l = .slice A p.length c ∧ Kd.R (Kd.int .i64) 3 W w2.heap.size (fun k_ => w2.heap.size ≤ k_) (.slice A p.length c) p ∧ LO left p ∧ p.length + cnt ≤ 16 ∧ W.ranges Tryz.prog 3 RN b it 16 (DN OPS) left cnt ∧ Below w.heap.size w W ∧ w2.heap.size ≤ W.heap.size) (fun _ _ W => W.rangeLeft b it)
  case atStart => exact ⟨none, 0, [], _, _, rfl, Kd.R_nil _ _ _ _ _, LO.start, by decide, RG.out, BL2.out, Nat.le_refl _⟩
  case round =>
    clear RG BL2
    obtain ⟨A, c, p, left, cnt, rfl, hR, hL, hpc, hrg, hbl, hsz⟩ := hrel
    have HR := Aside0.mk hR
    have HL := Aside0.mk hL
    have HRG := Aside0.mk hrg
    have HBL := Aside0.mk hbl
    have HSZ := Aside0.mk hsz
    have HPC := Aside0.mk hpc
    clear hR hL hrg hbl hsz hpc
    go_wp2_with (at_next; refine next_ranges_iv _ rfl _ rfl b it 16 _ _ _ rfl HRG.out ?_ ?_)
    · intro hc0 hl0
      have SR := Aside0.mk (HL.out.sorted hl0)
      clear hc0 hl0
      have hpl : p.length = 16 := by have := congrArg List.length SR.out; rw [List.length_mergeSort] at this; exact this
      have own := Kd.own_of_R HR.out
      rcases own.2 with ⟨hv0, hn0⟩ | ⟨g, cap, cur, hv, hbase, hbk, q1, q2, q3, q4⟩
      · exfalso; omega
      injection hv with e1 e2 e3
      subst e1 e3
      have HO := Aside0.mk (And.intro hbase (And.intro hbk (And.intro q1 (And.intro q2 (And.intro q3 q4)))))
      have KS := Tryz.slices_Sort_int g 0 c p wr (holds_of_blockI hbk (by simpa [encs] using q4)) (blk_lt hbk) (by omega)
      rw [SR.out] at KS
      have HPL := Aside0.mk hpl
      clear own hbase hbk q1 q2 q3 q4 e2 hpl
      go_wp2_with fail
      refine KS.mono ?_
      rintro e w5 ⟨rfl, n, os, rfl⟩
      have own5 := ownsRow_sortedI (n := n) (os := os) (ts := OPS) (ss := p) (by rw [HPL.out]; rfl) HO.out.1 HO.out.2.1 (by have := HO.out.2.2.1; exact this) HO.out.2.2.2.1 HO.out.2.2.2.2.1
      have R5 : Kd.R (Kd.int .i64) 3 _ w2.heap.size (fun _ => True) (.slice (some ⟨g, 0, none⟩) p.length c) OPS := Kd.R_of_own (by rw [HPL.out] at own5 ⊢; exact own5) (fun _ _ => trivial)
      have g5 := grownBy_sortedI (w := wr) (g := g) (n := n) (os := os) OPS.toArray
      have B5 : Aside0 (Below w.heap.size w (Go.Sort.grow (Go.Sort.putRow (Value.int .i64) (Go.Sort.ahead wr n) g 0 OPS.toArray) os)) := ⟨HBL.out.trans ⟨g5.os, g5.tape, g5.output, g5.size, fun k hk => g5.block k (Nat.lt_of_lt_of_le hk HBL.out.size) (by intro e; injection e with e; have := HO.out.1; have := S2.out; omega)⟩⟩
      obtain ⟨A6, c6, e6, l6, C6⟩ := Kd.R_reads R5
      have CC := Aside0.mk (And.intro e6 (And.intro l6 C6))
      clear own5 R5 g5 e6 l6 C6 KS
      go_wp2_with fail
      go_ret
      obtain ⟨e6, l6, C6⟩ := CC.out
      injection e6 with e7 e8 e9
      subst e7 e9
      exact ⟨some ⟨g, 0, none⟩, c, by rw [HPL.out]; rfl, l6, C6, B5.out⟩
    · intro x cv w3 cnt1 hleft hrg1 hlt hg1 hs1 hen
      have HR3 : Aside0 (Kd.R (Kd.int .i64) 3 w3 w2.heap.size (fun k_ => w2.heap.size ≤ k_) (.slice A p.length c) p) := ⟨Kd.R_grown HR.out hg1 (by intro k hk e; injection e with e; have := S2.out; omega)⟩
      have HL1 := Aside0.mk (HL.out.step hleft)
      have HRG1 := Aside0.mk hrg1
      have HG1 := Aside0.mk hg1
      have HLT := Aside0.mk hlt
      clear hrg1 hleft hlt hg1
      have hsz3 : w2.heap.size ≤ w3.heap.size := by rw [hs1]; exact HSZ.out
      have hpl : p.length ≤ 16 := by have := HPC.out; omega
      clear hs1
      go_wp2_with (at_builtin; refine Kd.R_append (Kd.int .i64) (w0 := w3) w2.heap.size rfl (.tmp 9) (.tmp 11) 23 3 (.int .i64 0) 8 rfl Tryz.underlying23 info3 rfl (by decide) (by omega) (.slice A p.length c) p x [.int .i64 x] (fun k_ => w2.heap.size ≤ k_) (fun _ => False) rfl rfl rfl (fun _ hk_ => hk_.elim) (fun k_ hk_ => Nat.le_trans hsz3 hk_) HR3.out (Below.refl _ _) hsz3 (by omega) ?_; intro v5 w4 ho _ hg hat_; obtain ⟨A5, c5, e5⟩ := Kd.R_slice ho; subst e5; have HC5 := Aside0.mk (step_ops HR3.out.1 S2.out.1 S2.out.2.1 S2.out.2.2 HRG1.out HBL.out HG1.out hsz3 hg); have HO4 := Aside0.mk ho; clear ho hg hat_)
      go_roundw
      case rel => exact ⟨A5, c5, p ++ [x], _, cnt1, by rw [List.length_append]; rfl, HO4.out, HL1.out, by have := HLT.out; have := HPC.out; simp; omega, HC5.out.1, HC5.out.2.1, HC5.out.2.2⟩
      case measure => rw [HC5.out.1.left_eq, HRG.out.left_eq]; exact HLT.out
set_option maxRecDepth 100000 in
theorem awake15_calls (w : World) : Calls Tryz.prog 9 #[] w fun e w' => e = .returned (.bool true) ∧ Below w.heap.size w w' := by
  have K : Calls Tryz.prog 23 #[.agg #[.slice none 0 0, .slice none 0 0, .slice none 0 0, .slice none 0 0, .slice none 0 0, .slice none 0 0, .slice none 0 0, .int .i64 0, .slice none 0 0], .int .i64 0] w (FtOut ([], [], 150) w) :=
    vFuncType_calls none 0 [] none 0 [] none 0 [] none 0 [] none 0 [] none 0 [] none 0 [] 0 none 0 [] 0 w ⟨Kd.C_nil _ _, Nat.le_refl _, Kd.C_nil _ _, Nat.le_refl _, Kd.C_nil _ _, Nat.le_refl _, Kd.C_nil _ _, Nat.le_refl _, Kd.C_nil _ _, Nat.le_refl _, Kd.C_nil _ _, Nat.le_refl _, Kd.C_nil _ _, Nat.le_refl _, Kd.C_nil _ _, Nat.le_refl _, by decide⟩ (by constructor <;> decide)
  go_enter Tryz.func9, Tryz.ntmps9
  go_wp2_with fail
  refine K.mono ?_
  rintro e w2 ⟨v1, v2, rfl, R1, R2, hb⟩
  have HB := Aside0.mk hb
  clear hb R1 R2 K
  go_wp2_with fail
  go_ret
  exact ⟨rfl, HB.out⟩
theorem ops_rise {x y : Int} (m : Nat) (hx : OPS[m + 1]? = some x) (hy : OPS[m]? = some y) : decide (x ≤ y) = false := by
  have h : ∀ m : Fin 15, ∀ x ∈ OPS[m.val + 1]?, ∀ y ∈ OPS[m.val]?, decide (x ≤ y) = false := by decide
  have hm : m < 15 := by
    obtain ⟨h1, _⟩ := List.getElem?_eq_some_iff.1 hx
    have : OPS.length = 16 := rfl
    omega
  exact h ⟨m, hm⟩ x hx y hy
theorem VRl {w : World} {A : Option Addr} {n c : Nat} {xs : List S39} (h : VR w (.slice A n c) xs) : n = xs.length ∧ xs.length ≤ c ∧ Kd.C k39 w A xs.length xs := by
  obtain ⟨A', c', e, h1, h2⟩ := h
  injection e with e1 e2 e3
  subst e1 e3
  exact ⟨e2, h1, h2⟩
theorem same_calls (w : World) {A1 A2 : Option Addr} {c1 c2 : Nat} {xs : List S39} (hl : xs.length ≤ 1048576) (h1 : xs.length ≤ c1) (h2 : Kd.C k39 w A1 xs.length xs) (g1 : xs.length ≤ c2) (g2 : Kd.C k39 w A2 xs.length xs) :
    Calls Tryz.prog 16 #[.slice A1 xs.length c1, .slice A2 xs.length c2] w fun e w' => e = .returned (.bool true) ∧ Below w.heap.size w w' :=
  (ratchetlaw15_same.calls _ A1 c1 xs A2 c2 xs true w h2 h1 g2 g1 (sameR xs hl)).mono (by rintro e w' ⟨rfl, m, rfl⟩; exact ⟨rfl, below_drewN (Below.refl _ _) m⟩)
set_option maxRecDepth 100000 in
set_option maxHeartbeats 16000000 in
theorem types_calls (A0 : Option Addr) (c0 : Nat) (l0 : List S132) (A1 : Option Addr) (c1 : Nat) (l1 : List Int) (A2 : Option Addr) (c2 : Nat) (l2 : List S214) (A3 : Option Addr) (c3 : Nat) (l3 : List S212) (A4 : Option Addr) (c4 : Nat) (l4 : List S292) (A5 : Option Addr) (c5 : Nat) (l5 : List Int) (A6 : Option Addr) (c6 : Nat) (l6 : List S39) (d7 : Int) (A8 : Option Addr) (c8 : Nat) (l8 : List Bool) (n t op : Int) (v : S39) (w : World) (hx : XIn w A0 c0 l0 A1 c1 l1 A2 c2 l2 A3 c3 l3 A4 c4 l4 A5 c5 l5 A6 c6 l6 d7 A8 c8 l8) (hn : NV64 n) (ht : NV64 t) :
    Calls Tryz.prog 7 #[.agg #[.slice A0 l0.length c0, .slice A1 l1.length c1, .slice A2 l2.length c2, .slice A3 l3.length c3, .slice A4 l4.length c4, .slice A5 l5.length c5, .slice A6 l6.length c6, .int .i64 d7, .slice A8 l8.length c8], .int .i64 n, .agg #[.int .i64 t, .int .i64 v.f0, .bool v.f1, .int .i64 v.f2], .int .i64 op] w fun e w' => e = .returned (.bool true) ∧ Below w.heap.size w w' := by
  obtain ⟨W3, hW3⟩ : ∃ W3, W3 = ((w.alloc (.cells #[.slice A0 l0.length c0, .slice A1 l1.length c1, .slice A2 l2.length c2, .slice A3 l3.length c3, .slice A4 l4.length c4, .slice A5 l5.length c5, .slice A6 l6.length c6, .int .i64 d7, .slice A8 l8.length c8] 30)).alloc (.cells #[.int .i64 t, .int .i64 v.f0, .bool v.f1, .int .i64 v.f2] 41)) := ⟨_, rfl⟩
  have b3 : Below w.heap.size w W3 := by rw [hW3]; exact ((Below.refl _ _).alloc (Nat.le_refl _) _).alloc (by simp) _
  have B3 := Aside0.mk b3
  have HX3 := Aside0.mk (hx.below b3)
  have HT := Aside0.mk ht
  have HN := Aside0.mk hn
  have hq0 : W3.heap[w.heap.size]? = some (.cells #[.slice A0 l0.length c0, .slice A1 l1.length c1, .slice A2 l2.length c2, .slice A3 l3.length c3, .slice A4 l4.length c4, .slice A5 l5.length c5, .slice A6 l6.length c6, .int .i64 d7, .slice A8 l8.length c8] 30 (0, 0)) := by rw [hW3]; exact blk_alloc (blk_new w _) _
  have hq1 : W3.heap[w.heap.size + 1]? = some (.cells #[.int .i64 t, .int .i64 v.f0, .bool v.f1, .int .i64 v.f2] 41 (0, 0)) := by rw [hW3]; have h_ := blk_new (w.alloc (.cells #[.slice A0 l0.length c0, .slice A1 l1.length c1, .slice A2 l2.length c2, .slice A3 l3.length c3, .slice A4 l4.length c4, .slice A5 l5.length c5, .slice A6 l6.length c6, .int .i64 d7, .slice A8 l8.length c8] 30)) (.cells #[.int .i64 t, .int .i64 v.f0, .bool v.f1, .int .i64 v.f2] 41); rw [World.size_alloc] at h_; exact h_
  have HQ3 := Aside0.mk (And.intro hq0 hq1)
  have LF := Aside0.mk (ftV_len l0 HX3.out.bulk n)
  have LB := Aside0.mk (btV_len l0 HX3.out.bulk t v)
  clear b3 hx ht hn hq0 hq1
  go_enter Tryz.func7, Tryz.ntmps7
  go_wp2_with fail
  rw [← hW3]
  clear hW3
  refine (vFuncType_calls A0 c0 l0 A1 c1 l1 A2 c2 l2 A3 c3 l3 A4 c4 l4 A5 c5 l5 A6 c6 l6 d7 A8 c8 l8 n W3 HX3.out HN.out).mono ?_
  rintro e W4 ⟨v1, v2, rfl, R1, R2, hb⟩
  have B4 := Aside0.mk (B3.out.trans (hb.mono B3.out.size))
  have HX4 := Aside0.mk (HX3.out.below hb)
  have HQ4 := Aside0.mk (And.intro (blk_below HQ3.out.1 hb) (blk_below HQ3.out.2 hb))
  have P1 := Aside0.mk (And.intro R1 R2)
  obtain ⟨AP11, cP11, e1, h1, C1⟩ := R1
  obtain ⟨AP12, cP12, e2, h2, C2⟩ := R2
  subst e1 e2
  clear hb h1 h2 C1 C2
  have x0_ : W4.cell? ⟨w.heap.size, 0, none⟩ = some (.slice A0 l0.length c0) := (blk_cell HQ4.out.1 0).trans rfl
  have x1_ : W4.cell? ⟨w.heap.size, 1, none⟩ = some (.slice A1 l1.length c1) := (blk_cell HQ4.out.1 1).trans rfl
  have x2_ : W4.cell? ⟨w.heap.size, 2, none⟩ = some (.slice A2 l2.length c2) := (blk_cell HQ4.out.1 2).trans rfl
  have x3_ : W4.cell? ⟨w.heap.size, 3, none⟩ = some (.slice A3 l3.length c3) := (blk_cell HQ4.out.1 3).trans rfl
  have x4_ : W4.cell? ⟨w.heap.size, 4, none⟩ = some (.slice A4 l4.length c4) := (blk_cell HQ4.out.1 4).trans rfl
  have x5_ : W4.cell? ⟨w.heap.size, 5, none⟩ = some (.slice A5 l5.length c5) := (blk_cell HQ4.out.1 5).trans rfl
  have x6_ : W4.cell? ⟨w.heap.size, 6, none⟩ = some (.slice A6 l6.length c6) := (blk_cell HQ4.out.1 6).trans rfl
  have x7_ : W4.cell? ⟨w.heap.size, 7, none⟩ = some (.int .i64 d7) := (blk_cell HQ4.out.1 7).trans rfl
  have x8_ : W4.cell? ⟨w.heap.size, 8, none⟩ = some (.slice A8 l8.length c8) := (blk_cell HQ4.out.1 8).trans rfl
  go_wp2_with fail
  clear x0_ x1_ x2_ x3_ x4_ x5_ x6_ x7_ x8_
  refine (rFuncType_calls A0 c0 l0 A1 c1 l1 A2 c2 l2 A3 c3 l3 A4 c4 l4 A5 c5 l5 A6 c6 l6 d7 A8 c8 l8 n W4 HX4.out HN.out).mono ?_
  rintro e W5 ⟨v1, v2, rfl, R1, R2, hb⟩
  have B5 := Aside0.mk (B4.out.trans (hb.mono B4.out.size))
  have HX5 := Aside0.mk (HX4.out.below hb)
  have HQ5 := Aside0.mk (And.intro (blk_below HQ4.out.1 hb) (blk_below HQ4.out.2 hb))
  have P1 := Aside0.mk (And.intro (P1.out.1.below hb) (P1.out.2.below hb))
  have P2 := Aside0.mk (And.intro R1 R2)
  obtain ⟨AP21, cP21, e1, h1, C1⟩ := R1
  obtain ⟨AP22, cP22, e2, h2, C2⟩ := R2
  subst e1 e2
  clear hb h1 h2 C1 C2
  go_wp2_with fail
  have K6 := same_calls W5 LF.out.1 (VRl P1.out.1).2.1 (VRl P1.out.1).2.2 (VRl P2.out.1).2.1 (VRl P2.out.1).2.2
  refine K6.mono ?_
  rintro e W6 ⟨rfl, hb⟩
  have B6 := Aside0.mk (B5.out.trans (hb.mono B5.out.size))
  have HX6 := Aside0.mk (HX5.out.below hb)
  have HQ6 := Aside0.mk (And.intro (blk_below HQ5.out.1 hb) (blk_below HQ5.out.2 hb))
  have P1 := Aside0.mk (And.intro (P1.out.1.below hb) (P1.out.2.below hb))
  have P2 := Aside0.mk (And.intro (P2.out.1.below hb) (P2.out.2.below hb))
  clear hb K6
  go_wp2_with fail
  have K7 := same_calls W6 LF.out.2 (VRl P1.out.2).2.1 (VRl P1.out.2).2.2 (VRl P2.out.2).2.1 (VRl P2.out.2).2.2
  refine K7.mono ?_
  rintro e W7 ⟨rfl, hb⟩
  have B7 := Aside0.mk (B6.out.trans (hb.mono B6.out.size))
  have HX7 := Aside0.mk (HX6.out.below hb)
  have HQ7 := Aside0.mk (And.intro (blk_below HQ6.out.1 hb) (blk_below HQ6.out.2 hb))
  clear hb K7
  have x0_ : W7.cell? ⟨w.heap.size, 0, none⟩ = some (.slice A0 l0.length c0) := (blk_cell HQ7.out.1 0).trans rfl
  have x1_ : W7.cell? ⟨w.heap.size, 1, none⟩ = some (.slice A1 l1.length c1) := (blk_cell HQ7.out.1 1).trans rfl
  have x2_ : W7.cell? ⟨w.heap.size, 2, none⟩ = some (.slice A2 l2.length c2) := (blk_cell HQ7.out.1 2).trans rfl
  have x3_ : W7.cell? ⟨w.heap.size, 3, none⟩ = some (.slice A3 l3.length c3) := (blk_cell HQ7.out.1 3).trans rfl
  have x4_ : W7.cell? ⟨w.heap.size, 4, none⟩ = some (.slice A4 l4.length c4) := (blk_cell HQ7.out.1 4).trans rfl
  have x5_ : W7.cell? ⟨w.heap.size, 5, none⟩ = some (.slice A5 l5.length c5) := (blk_cell HQ7.out.1 5).trans rfl
  have x6_ : W7.cell? ⟨w.heap.size, 6, none⟩ = some (.slice A6 l6.length c6) := (blk_cell HQ7.out.1 6).trans rfl
  have x7_ : W7.cell? ⟨w.heap.size, 7, none⟩ = some (.int .i64 d7) := (blk_cell HQ7.out.1 7).trans rfl
  have x8_ : W7.cell? ⟨w.heap.size, 8, none⟩ = some (.slice A8 l8.length c8) := (blk_cell HQ7.out.1 8).trans rfl
  have b0_ : W7.cell? ⟨w.heap.size + 1, 0, none⟩ = some (.int .i64 t) := (blk_cell HQ7.out.2 0).trans rfl
  have b1_ : W7.cell? ⟨w.heap.size + 1, 1, none⟩ = some (.int .i64 v.f0) := (blk_cell HQ7.out.2 1).trans rfl
  have b2_ : W7.cell? ⟨w.heap.size + 1, 2, none⟩ = some (.bool v.f1) := (blk_cell HQ7.out.2 2).trans rfl
  have b3_ : W7.cell? ⟨w.heap.size + 1, 3, none⟩ = some (.int .i64 v.f2) := (blk_cell HQ7.out.2 3).trans rfl
  go_wp2_with fail
  clear x0_ x1_ x2_ x3_ x4_ x5_ x6_ x7_ x8_ b0_ b1_ b2_ b3_
  refine (vBlockType_calls A0 c0 l0 A1 c1 l1 A2 c2 l2 A3 c3 l3 A4 c4 l4 A5 c5 l5 A6 c6 l6 d7 A8 c8 l8 t v W7 HX7.out HT.out).mono ?_
  rintro e W8 ⟨v1, v2, rfl, R1, R2, hb⟩
  have B8 := Aside0.mk (B7.out.trans (hb.mono B7.out.size))
  have HX8 := Aside0.mk (HX7.out.below hb)
  have HQ8 := Aside0.mk (And.intro (blk_below HQ7.out.1 hb) (blk_below HQ7.out.2 hb))
  have P3 := Aside0.mk (And.intro R1 R2)
  obtain ⟨AP31, cP31, e1, h1, C1⟩ := R1
  obtain ⟨AP32, cP32, e2, h2, C2⟩ := R2
  subst e1 e2
  clear hb h1 h2 C1 C2
  have x0_ : W8.cell? ⟨w.heap.size, 0, none⟩ = some (.slice A0 l0.length c0) := (blk_cell HQ8.out.1 0).trans rfl
  have x1_ : W8.cell? ⟨w.heap.size, 1, none⟩ = some (.slice A1 l1.length c1) := (blk_cell HQ8.out.1 1).trans rfl
  have x2_ : W8.cell? ⟨w.heap.size, 2, none⟩ = some (.slice A2 l2.length c2) := (blk_cell HQ8.out.1 2).trans rfl
  have x3_ : W8.cell? ⟨w.heap.size, 3, none⟩ = some (.slice A3 l3.length c3) := (blk_cell HQ8.out.1 3).trans rfl
  have x4_ : W8.cell? ⟨w.heap.size, 4, none⟩ = some (.slice A4 l4.length c4) := (blk_cell HQ8.out.1 4).trans rfl
  have x5_ : W8.cell? ⟨w.heap.size, 5, none⟩ = some (.slice A5 l5.length c5) := (blk_cell HQ8.out.1 5).trans rfl
  have x6_ : W8.cell? ⟨w.heap.size, 6, none⟩ = some (.slice A6 l6.length c6) := (blk_cell HQ8.out.1 6).trans rfl
  have x7_ : W8.cell? ⟨w.heap.size, 7, none⟩ = some (.int .i64 d7) := (blk_cell HQ8.out.1 7).trans rfl
  have x8_ : W8.cell? ⟨w.heap.size, 8, none⟩ = some (.slice A8 l8.length c8) := (blk_cell HQ8.out.1 8).trans rfl
  have b0_ : W8.cell? ⟨w.heap.size + 1, 0, none⟩ = some (.int .i64 t) := (blk_cell HQ8.out.2 0).trans rfl
  have b1_ : W8.cell? ⟨w.heap.size + 1, 1, none⟩ = some (.int .i64 v.f0) := (blk_cell HQ8.out.2 1).trans rfl
  have b2_ : W8.cell? ⟨w.heap.size + 1, 2, none⟩ = some (.bool v.f1) := (blk_cell HQ8.out.2 2).trans rfl
  have b3_ : W8.cell? ⟨w.heap.size + 1, 3, none⟩ = some (.int .i64 v.f2) := (blk_cell HQ8.out.2 3).trans rfl
  go_wp2_with fail
  clear x0_ x1_ x2_ x3_ x4_ x5_ x6_ x7_ x8_ b0_ b1_ b2_ b3_
  refine (rBlockType_calls A0 c0 l0 A1 c1 l1 A2 c2 l2 A3 c3 l3 A4 c4 l4 A5 c5 l5 A6 c6 l6 d7 A8 c8 l8 t v W8 HX8.out HT.out).mono ?_
  rintro e W9 ⟨v1, v2, rfl, R1, R2, hb⟩
  have B9 := Aside0.mk (B8.out.trans (hb.mono B8.out.size))
  have HX9 := Aside0.mk (HX8.out.below hb)
  have HQ9 := Aside0.mk (And.intro (blk_below HQ8.out.1 hb) (blk_below HQ8.out.2 hb))
  have P3 := Aside0.mk (And.intro (P3.out.1.below hb) (P3.out.2.below hb))
  have P4 := Aside0.mk (And.intro R1 R2)
  obtain ⟨AP41, cP41, e1, h1, C1⟩ := R1
  obtain ⟨AP42, cP42, e2, h2, C2⟩ := R2
  subst e1 e2
  clear hb h1 h2 C1 C2
  go_wp2_with fail
  have K10 := same_calls W9 LB.out.1 (VRl P3.out.1).2.1 (VRl P3.out.1).2.2 (VRl P4.out.1).2.1 (VRl P4.out.1).2.2
  refine K10.mono ?_
  rintro e W10 ⟨rfl, hb⟩
  have B10 := Aside0.mk (B9.out.trans (hb.mono B9.out.size))
  have HX10 := Aside0.mk (HX9.out.below hb)
  have HQ10 := Aside0.mk (And.intro (blk_below HQ9.out.1 hb) (blk_below HQ9.out.2 hb))
  have P3 := Aside0.mk (And.intro (P3.out.1.below hb) (P3.out.2.below hb))
  have P4 := Aside0.mk (And.intro (P4.out.1.below hb) (P4.out.2.below hb))
  clear hb K10
  go_wp2_with fail
  have K11 := same_calls W10 LB.out.2 (VRl P3.out.2).2.1 (VRl P3.out.2).2.2 (VRl P4.out.2).2.1 (VRl P4.out.2).2.2
  refine K11.mono ?_
  rintro e W11 ⟨rfl, hb⟩
  have B11 := Aside0.mk (B10.out.trans (hb.mono B10.out.size))
  have HX11 := Aside0.mk (HX10.out.below hb)
  have HQ11 := Aside0.mk (And.intro (blk_below HQ10.out.1 hb) (blk_below HQ10.out.2 hb))
  clear hb K11
  go_wp2_with fail
  refine (vOps_calls W11).mono ?_
  rintro e W12 ⟨A, c, rfl, hc16, hC, hb⟩
  have B12 := Aside0.mk (B11.out.trans (hb.mono B11.out.size))
  have HC := Aside0.mk hC
  have H16 := Aside0.mk hc16
  clear hC hb hc16
  go_wp2_with fail
  go_loopw [17, 16] (fun i h W => ∃ k : Nat, i = .int .i64 k ∧ k ≤ 16 ∧ h = .bool ((OPS.take k).any fun x => x == op) ∧ Kd.C (Kd.int .i64) W A 16 OPS ∧ Below w.heap.size w W) (fun i _ _ => 16 - (intOf i).toNat)
  case atStart => exact ⟨0, rfl, Nat.zero_le _, rfl, HC.out, B12.out⟩
  case round =>
    clear HC
    obtain ⟨k, rfl, hk, rfl, hC, hbl⟩ := hrel
    have HC := Aside0.mk hC
    have HBL := Aside0.mk hbl
    have HK := Aside0.mk hk
    clear hC hbl
    by_cases hlt : k < 16
    · obtain ⟨x, hx⟩ : ∃ x : Int, OPS[k]? = some x := ⟨_, List.getElem?_eq_getElem (by exact hlt)⟩
      have EX := Aside0.mk (show (OPS.take (k + 1)).any (fun x => x == op) = ((OPS.take k).any (fun x => x == op) || x == op) by rw [List.take_add_one, hx, List.any_append]; simp)
      obtain ⟨ad, y, rfl, hy, hcy⟩ := at_int' HC.out k hlt
      obtain rfl : x = y := by rw [hx] at hy; exact Option.some.inj hy
      have HX := Aside0.mk hx
      clear hx hy
      obtain ⟨z, hz⟩ : ∃ z : Bool, z = (OPS.take k).any fun x => x == op := ⟨_, rfl⟩
      rw [← hz] at EX ⊢
      clear hz
      by_cases h0 : k = 0
      · have g1 : (0 < k) = False := by simp; omega
        have g2 : decide (0 < k) = false := by simp; omega
        have g0 : decide ((0 : Int) < (k : Int)) = false := by simp; omega
        have g5 : ((k : Int) < 16) = True := by simp; omega
        have HLT := Aside0.mk hlt
        clear h0 hlt
        go_wp2_with fail
        refine start_ (n := 14) (S := fun w' => w'.cell? (ad.add k) = some (.int .i64 x)) (ds := []) #[false, false, false, false, false, false, false, false, false, false, false, false, false, false] (by kernel_rfl) rfl rfl (hcy) (fun hHeld => ?_)
        refine pure_ (i := 0) (N := some 83) (v := ?_) (a' := ?_) #[true, false, false, false, false, false, false, false, false, false, false, false, false, false] rfl rfl (by kernel_rfl) (fun _ _ _ h => h) (Or.inl ⟨by rfl, ?_⟩) ?_ ?_
        rotate_left
        · intro w'
          go_simp
          with_reducible rfl
        rotate_left
        · simp only [Act.put, List.setIfInBounds_toArray, List.set_cons_zero, List.set_cons_succ, i64_w, i32_w]
          rfl
        refine pure_ (i := 1) (N := some 84) (v := ?_) (a' := ?_) #[true, true, false, false, false, false, false, false, false, false, false, false, false, false] rfl rfl (by kernel_rfl) (fun _ _ _ h => h) (Or.inl ⟨by rfl, ?_⟩) ?_ ?_
        rotate_left
        · intro w'
          go_simp
          with_reducible rfl
        rotate_left
        · simp only [Act.put, List.setIfInBounds_toArray, List.set_cons_zero, List.set_cons_succ, i64_w, i32_w]
          rfl
        refine pure_ (i := 2) (N := some 85) (v := ?_) (a' := ?_) #[true, true, true, false, false, false, false, false, false, false, false, false, false, false] rfl rfl (by kernel_rfl) (fun _ _ _ h => h) (Or.inl ⟨by rfl, ?_⟩) ?_ ?_
        rotate_left
        · intro w'
          go_simp
          with_reducible rfl
        rotate_left
        · simp only [Act.put, List.setIfInBounds_toArray, List.set_cons_zero, List.set_cons_succ, i64_w, i32_w]
          rfl
        refine pure_ (i := 3) (N := some 86) (v := undef) (a' := ?_) #[true, true, true, true, false, false, false, false, false, false, false, false, false, false] rfl rfl (by kernel_rfl) (fun _ _ _ h => h) (Or.inr ⟨by rfl, rfl⟩) ?_ ?_
        rotate_left
        · simp only [Act.put, List.setIfInBounds_toArray, List.set_cons_zero, List.set_cons_succ, i64_w, i32_w]
          rfl
        refine pure_ (i := 4) (N := some 87) (v := undef) (a' := ?_) #[true, true, true, true, true, false, false, false, false, false, false, false, false, false] rfl rfl (by kernel_rfl) (fun _ _ _ h => h) (Or.inr ⟨by rfl, rfl⟩) ?_ ?_
        rotate_left
        · simp only [Act.put, List.setIfInBounds_toArray, List.set_cons_zero, List.set_cons_succ, i64_w, i32_w]
          rfl
        refine pure_ (i := 5) (N := some 88) (v := undef) (a' := ?_) #[true, true, true, true, true, true, false, false, false, false, false, false, false, false] rfl rfl (by kernel_rfl) (fun _ _ _ h => h) (Or.inr ⟨by rfl, rfl⟩) ?_ ?_
        rotate_left
        · simp only [Act.put, List.setIfInBounds_toArray, List.set_cons_zero, List.set_cons_succ, i64_w, i32_w]
          rfl
        refine pure_ (i := 6) (N := some 89) (v := undef) (a' := ?_) #[true, true, true, true, true, true, true, false, false, false, false, false, false, false] rfl rfl (by kernel_rfl) (fun _ _ _ h => h) (Or.inr ⟨by rfl, rfl⟩) ?_ ?_
        rotate_left
        · simp only [Act.put, List.setIfInBounds_toArray, List.set_cons_zero, List.set_cons_succ, i64_w, i32_w]
          rfl
        refine pure_ (i := 7) (N := some 90) (v := undef) (a' := ?_) #[true, true, true, true, true, true, true, true, false, false, false, false, false, false] rfl rfl (by kernel_rfl) (fun _ _ _ h => h) (Or.inr ⟨by rfl, rfl⟩) ?_ ?_
        rotate_left
        · simp only [Act.put, List.setIfInBounds_toArray, List.set_cons_zero, List.set_cons_succ, i64_w, i32_w]
          rfl
        refine pure_ (i := 8) (N := some 91) (v := undef) (a' := ?_) #[true, true, true, true, true, true, true, true, true, false, false, false, false, false] rfl rfl (by kernel_rfl) (fun _ _ _ h => h) (Or.inr ⟨by rfl, rfl⟩) ?_ ?_
        rotate_left
        · simp only [Act.put, List.setIfInBounds_toArray, List.set_cons_zero, List.set_cons_succ, i64_w, i32_w]
          rfl
        refine pure_ (i := 9) (N := some 92) (v := undef) (a' := ?_) #[true, true, true, true, true, true, true, true, true, true, false, false, false, false] rfl rfl (by kernel_rfl) (fun _ _ _ h => h) (Or.inr ⟨by rfl, rfl⟩) ?_ ?_
        rotate_left
        · simp only [Act.put, List.setIfInBounds_toArray, List.set_cons_zero, List.set_cons_succ, i64_w, i32_w]
          rfl
        refine pure_ (i := 10) (N := some 93) (v := undef) (a' := ?_) #[true, true, true, true, true, true, true, true, true, true, true, false, false, false] rfl rfl (by kernel_rfl) (fun _ _ _ h => h) (Or.inr ⟨by rfl, rfl⟩) ?_ ?_
        rotate_left
        · simp only [Act.put, List.setIfInBounds_toArray, List.set_cons_zero, List.set_cons_succ, i64_w, i32_w]
          rfl
        refine pure_ (i := 11) (N := some 94) (v := undef) (a' := ?_) #[true, true, true, true, true, true, true, true, true, true, true, true, false, false] rfl rfl (by kernel_rfl) (fun _ _ _ h => h) (Or.inr ⟨by rfl, rfl⟩) ?_ ?_
        rotate_left
        · simp only [Act.put, List.setIfInBounds_toArray, List.set_cons_zero, List.set_cons_succ, i64_w, i32_w]
          rfl
        refine pure_ (i := 12) (N := some 95) (v := undef) (a' := ?_) #[true, true, true, true, true, true, true, true, true, true, true, true, true, false] rfl rfl (by kernel_rfl) (fun _ _ _ h => h) (Or.inr ⟨by rfl, rfl⟩) ?_ ?_
        rotate_left
        · simp only [Act.put, List.setIfInBounds_toArray, List.set_cons_zero, List.set_cons_succ, i64_w, i32_w]
          rfl
        refine pure_ (i := 13) (N := some 96) (v := ?_) (a' := ?_) #[true, true, true, true, true, true, true, true, true, true, true, true, true, true] rfl rfl (by kernel_rfl) (fun _ _ _ h => h) (Or.inl ⟨by rfl, ?_⟩) ?_ ?_
        rotate_left
        · intro w'
          go_simp
          with_reducible rfl
        rotate_left
        · simp only [Act.put, List.setIfInBounds_toArray, List.set_cons_zero, List.set_cons_succ, i64_w, i32_w]
          rfl
        refine done_ (by kernel_rfl) ?_
        
        have hd : wr.drew.cell? (ad.add k) = some (.int .i64 x) := hcy
        clear hcy hHeld g0 g1 g2
        cases z
        · go_wp2_with fail
          go_roundw
          case rel => exact ⟨k + 1, by go_num, HLT.out, by rw [EX.out]; rfl, Kd.C_below HC.out (Below.refl _ _).drew, HBL.out.drew⟩
          case measure => have := HLT.out; simp [intOf]; omega
        · go_wp2_with fail
          go_roundw
          case rel => exact ⟨k + 1, by go_num, HLT.out, by rw [EX.out]; rfl, Kd.C_below HC.out (Below.refl _ _).drew, HBL.out.drew⟩
          case measure => have := HLT.out; simp [intOf]; omega
      · obtain ⟨m, hm⟩ : ∃ m : Nat, m + 1 = k := ⟨k - 1, by omega⟩
        have g0 : decide ((0 : Int) < (k : Int)) = true := by simp; omega
        have g1 : 0 < k := by omega
        have g2 : decide (0 < k) = true := by simp; omega
        have g3 : wrap64 ((k : Int) - 1) = (m : Int) := by unfold wrap64; omega
        have g4 : ((m : Int) < 16) = True := by simp; omega
        have g5 : ((k : Int) < 16) = True := by simp; omega
        have HLT := Aside0.mk hlt
        obtain ⟨ad', y', e', hy', hcy'⟩ := at_int' HC.out m (by omega)
        cases e'
        have hle : decide (x ≤ y') = false := ops_rise m (by rw [hm]; exact HX.out) hy'
        clear hm hy' h0 hlt
        go_wp2_with fail
        refine start_ (n := 14) (S := fun w' => w'.cell? (ad.add k) = some (.int .i64 x) ∧ w'.cell? (ad.add m) = some (.int .i64 y')) (ds := []) #[false, false, false, false, false, false, false, false, false, false, false, false, false, false] (by kernel_rfl) rfl rfl ⟨hcy, hcy'⟩ (fun hHeld => ?_)
        refine pure_ (i := 0) (N := some 83) (v := ?_) (a' := ?_) #[true, false, false, false, false, false, false, false, false, false, false, false, false, false] rfl rfl (by kernel_rfl) (fun _ _ _ h => h) (Or.inl ⟨by rfl, ?_⟩) ?_ ?_
        rotate_left
        · intro w'
          go_simp
          with_reducible rfl
        rotate_left
        · simp only [Act.put, List.setIfInBounds_toArray, List.set_cons_zero, List.set_cons_succ, i64_w, i32_w]
          rfl
        refine pure_ (i := 1) (N := some 84) (v := ?_) (a' := ?_) #[true, true, false, false, false, false, false, false, false, false, false, false, false, false] rfl rfl (by kernel_rfl) (fun _ _ _ h => h) (Or.inl ⟨by rfl, ?_⟩) ?_ ?_
        rotate_left
        · intro w'
          go_simp
          with_reducible rfl
        rotate_left
        · simp only [Act.put, List.setIfInBounds_toArray, List.set_cons_zero, List.set_cons_succ, i64_w, i32_w]
          rfl
        refine pure_ (i := 2) (N := some 85) (v := ?_) (a' := ?_) #[true, true, true, false, false, false, false, false, false, false, false, false, false, false] rfl rfl (by kernel_rfl) (fun _ _ _ h => h) (Or.inl ⟨by rfl, ?_⟩) ?_ ?_
        rotate_left
        · intro w'
          go_simp
          with_reducible rfl
        rotate_left
        · simp only [Act.put, List.setIfInBounds_toArray, List.set_cons_zero, List.set_cons_succ, i64_w, i32_w]
          rfl
        refine pure_ (i := 3) (N := some 86) (v := ?_) (a' := ?_) #[true, true, true, true, false, false, false, false, false, false, false, false, false, false] rfl rfl (by kernel_rfl) (fun _ _ _ h => h) (Or.inl ⟨by rfl, ?_⟩) ?_ ?_
        rotate_left
        · intro w'
          go_simp
          with_reducible rfl
        rotate_left
        · simp only [Act.put, List.setIfInBounds_toArray, List.set_cons_zero, List.set_cons_succ, i64_w, i32_w]
          rfl
        refine pure_ (i := 4) (N := some 87) (v := ?_) (a' := ?_) #[true, true, true, true, true, false, false, false, false, false, false, false, false, false] rfl rfl (by kernel_rfl) (fun _ _ _ h => h) (Or.inl ⟨by rfl, ?_⟩) ?_ ?_
        rotate_left
        · intro w'
          go_simp
          with_reducible rfl
        rotate_left
        · simp only [Act.put, List.setIfInBounds_toArray, List.set_cons_zero, List.set_cons_succ, i64_w, i32_w]
          rfl
        refine pure_ (i := 5) (N := some 88) (v := ?_) (a' := ?_) #[true, true, true, true, true, true, false, false, false, false, false, false, false, false] rfl rfl (by kernel_rfl) (fun _ _ _ h => h) (Or.inl ⟨by rfl, ?_⟩) ?_ ?_
        rotate_left
        · intro w'
          go_simp
          with_reducible rfl
        rotate_left
        · simp only [Act.put, List.setIfInBounds_toArray, List.set_cons_zero, List.set_cons_succ, i64_w, i32_w]
          rfl
        refine pure_ (i := 7) (N := some 90) (v := ?_) (a' := ?_) #[true, true, true, true, true, true, false, true, false, false, false, false, false, false] rfl rfl (by kernel_rfl) (fun _ _ _ h => h) (Or.inl ⟨by rfl, ?_⟩) ?_ ?_
        rotate_left
        · intro w'
          go_simp
          with_reducible rfl
        rotate_left
        · simp only [Act.put, List.setIfInBounds_toArray, List.set_cons_zero, List.set_cons_succ, i64_w, i32_w]
          rfl
        refine pure_ (i := 8) (N := some 91) (v := ?_) (a' := ?_) #[true, true, true, true, true, true, false, true, true, false, false, false, false, false] rfl rfl (by kernel_rfl) (fun _ _ _ h => h) (Or.inl ⟨by rfl, ?_⟩) ?_ ?_
        rotate_left
        · intro w'
          go_simp
          with_reducible rfl
        rotate_left
        · simp only [Act.put, List.setIfInBounds_toArray, List.set_cons_zero, List.set_cons_succ, i64_w, i32_w]
          rfl
        refine pure_ (i := 9) (N := some 92) (v := ?_) (a' := ?_) #[true, true, true, true, true, true, false, true, true, true, false, false, false, false] rfl rfl (by kernel_rfl) (fun _ _ _ h => h) (Or.inl ⟨by rfl, ?_⟩) ?_ ?_
        rotate_left
        · intro w'
          go_simp
          with_reducible rfl
        rotate_left
        · simp only [Act.put, List.setIfInBounds_toArray, List.set_cons_zero, List.set_cons_succ, i64_w, i32_w]
          rfl
        refine pure_ (i := 10) (N := some 93) (v := ?_) (a' := ?_) #[true, true, true, true, true, true, false, true, true, true, true, false, false, false] rfl rfl (by kernel_rfl) (fun _ _ _ h => h) (Or.inl ⟨by rfl, ?_⟩) ?_ ?_
        rotate_left
        · intro w'
          go_simp
          with_reducible rfl
        rotate_left
        · simp only [Act.put, List.setIfInBounds_toArray, List.set_cons_zero, List.set_cons_succ, i64_w, i32_w]
          rfl
        refine take_ (i := 6) (N := some 89) (v := ?_) (a' := ?_) #[true, true, true, true, true, true, true, true, true, true, true, false, false, false] rfl rfl (by kernel_rfl) (fun _ _ _ h => h) (Or.inl ⟨by rfl, ?_⟩) hHeld ?_ ?_
        rotate_left
        · rintro w' ⟨s0, s1⟩
          go_simp
          with_reducible rfl
        rotate_left
        · simp only [Act.put, List.setIfInBounds_toArray, List.set_cons_zero, List.set_cons_succ, i64_w, i32_w]
          rfl
        refine take_ (i := 11) (N := some 94) (v := ?_) (a' := ?_) #[true, true, true, true, true, true, true, true, true, true, true, true, false, false] rfl rfl (by kernel_rfl) (fun _ _ _ h => h) (Or.inl ⟨by rfl, ?_⟩) hHeld ?_ ?_
        rotate_left
        · rintro w' ⟨s0, s1⟩
          go_simp
          with_reducible rfl
        rotate_left
        · simp only [Act.put, List.setIfInBounds_toArray, List.set_cons_zero, List.set_cons_succ, i64_w, i32_w]
          rfl
        refine pure_ (i := 12) (N := some 95) (v := ?_) (a' := ?_) #[true, true, true, true, true, true, true, true, true, true, true, true, true, false] rfl rfl (by kernel_rfl) (fun _ _ _ h => h) (Or.inl ⟨by rfl, ?_⟩) ?_ ?_
        rotate_left
        · intro w'
          go_simp
          with_reducible rfl
        rotate_left
        · simp only [Act.put, List.setIfInBounds_toArray, List.set_cons_zero, List.set_cons_succ, i64_w, i32_w]
          rfl
        refine pure_ (i := 13) (N := some 96) (v := ?_) (a' := ?_) #[true, true, true, true, true, true, true, true, true, true, true, true, true, true] rfl rfl (by kernel_rfl) (fun _ _ _ h => h) (Or.inl ⟨by rfl, ?_⟩) ?_ ?_
        rotate_left
        · intro w'
          go_simp
          with_reducible rfl
        rotate_left
        · simp only [Act.put, List.setIfInBounds_toArray, List.set_cons_zero, List.set_cons_succ, i64_w, i32_w]
          rfl
        refine done_ (by kernel_rfl) ?_
        
        have hd : wr.drew.cell? (ad.add k) = some (.int .i64 x) := hcy
        clear hcy hcy' hHeld hle g0 g1 g2 g3 g4
        cases z
        · go_wp2_with fail
          go_roundw
          case rel => exact ⟨k + 1, by go_num, HLT.out, by rw [EX.out]; rfl, Kd.C_below HC.out (Below.refl _ _).drew, HBL.out.drew⟩
          case measure => have := HLT.out; simp [intOf]; omega
        · go_wp2_with fail
          go_roundw
          case rel => exact ⟨k + 1, by go_num, HLT.out, by rw [EX.out]; rfl, Kd.C_below HC.out (Below.refl _ _).drew, HBL.out.drew⟩
          case measure => have := HLT.out; simp [intOf]; omega
    · obtain rfl : k = 16 := by omega
      have EO : (OPS.take 16).any (fun x => x == op) = OPS.any (fun x => x == op) := rfl
      rw [EO]
      obtain ⟨z, hz⟩ : ∃ z : Bool, z = OPS.any fun x => x == op := ⟨_, rfl⟩
      have KT := ratchetref15_Takes.calls op _ wr (takesR op)
      rw [← hz] at KT ⊢
      clear hz EO hlt
      go_wp2_with fail
      refine KT.mono ?_
      rintro e w9 ⟨rfl, m, rfl⟩
      clear KT
      go_wp2_with fail
      refine (awake15_calls _).mono ?_
      rintro e w10 ⟨rfl, hb⟩
      have HB2 := Aside0.mk ((below_drewN HBL.out m).trans (hb.mono (below_drewN HBL.out m).size))
      clear hb
      go_wp2_with fail
      go_ret
      exact ⟨by simp, HB2.out⟩
end Go.Proofs.YtohlmkcgempdlaaGreatDoor.Cn
