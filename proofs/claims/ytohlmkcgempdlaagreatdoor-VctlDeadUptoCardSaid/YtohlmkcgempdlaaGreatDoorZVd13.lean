/- Parts of the proof of vctlDead_holds (13 of 24): what it says and shows stands at its declarations. -/
import Derived.Test.YtohlmkcgempdlaaGreatDoorZVd12
import Derived.Laws.ResultCell
import Derived.Maps.RangeWalk
import Derived.Maps.Ext
import Derived.Sort.MapsRangeIn
import Derived.LoopTactic
namespace Go.Proofs.YtohlmkcgempdlaaGreatDoor.Cn
set_option linter.unusedSimpArgs false
set_option maxRecDepth 100000
set_option linter.unusedVariables false
open Go.RowKit Go.Maps Go.Proofs.YtohlmkcgempdlaaGreatDoorW.PrintWords Go.Proofs.YtohlmkcgempdlaaGreatDoorW.PrintLast Go.Proofs.YtohlmkcgempdlaaGreatDoorW.PrintMore Go.Proofs.YtohlmkcgempdlaaGreatDoor.QD
theorem none_made (g : Nat) (w : World) (h : w.cell? ⟨g, 3, none⟩ = some (.bool true)) : Calls Tryz.prog 162 #[.pointer (some ⟨g, 0, none⟩)] w fun e w' => e = .returned (.bool false) ∧ w' = w := by
 go_enter Tryz.func162, Tryz.ntmps162
 go_wp2_with fail
 go_ret
 exact ⟨rfl, rfl⟩
theorem new_tb (w : World) (htab : Lib.TabBelow Tryz.prog w.heap.size w "internal/strconv.uint64pow10" .u64 Lib.pow10Tab) : TB w.heap.size (w.heap.size + 1) 228 [.bool true] (fun _ => True) [] (.slice none 0 0) w.heap.size (.map []) ((w.alloc (.map #[] 0)).alloc (.cells #[.slice none 0 0, .map (some w.heap.size), .int .i64 0, .bool true] 228)) where
 box := by have h := blk_new (w.alloc (.map #[] 0)) (.cells #[.slice none 0 0, .map (some w.heap.size), .int .i64 0, .bool true] 228); rw [World.size_alloc] at h; exact h
 row := Kd.R_nil _ _ _ _ _
 map := (World.ownsMap_made w _ _ _).alloc _
 pm := PM.nil
 hg := Nat.le_succ _
 hb := Nat.le_refl _
 tab := htab.on ((bz_).alloc (by simp) _)
theorem new_calls (w : World) (htab : Lib.TabBelow Tryz.prog w.heap.size w "internal/strconv.uint64pow10" .u64 Lib.pow10Tab) :
  Calls Tryz.prog 150 #[] w fun e w' => e = .returned (.pointer (some ⟨w.heap.size + 1, 0, none⟩)) ∧ TB w.heap.size (w.heap.size + 1) 228 [.bool true] (fun _ => True) [] (.slice none 0 0) w.heap.size (.map []) w' ∧ Below w.heap.size w w' := by
 have HT := Aside0.mk htab
 clear htab
 have hmm := @run_makeMap Tryz.prog
 go_enter Tryz.func150, Tryz.ntmps150
 go_wp2_with fail
 go_ret
 refine ⟨rfl, ?_, (bz_).alloc (by simp) _⟩
 exact new_tb w HT.out
end Go.Proofs.YtohlmkcgempdlaaGreatDoor.Cn
namespace Go.Proofs.YtohlmkcgempdlaaGreatDoor.Cn
set_option linter.unusedSimpArgs false
set_option maxRecDepth 100000
set_option linter.unusedVariables false
open Go.RowKit Go.Maps Go.Proofs.YtohlmkcgempdlaaGreatDoorW.PrintWords Go.Proofs.YtohlmkcgempdlaaGreatDoorW.PrintLast Go.Proofs.YtohlmkcgempdlaaGreatDoorW.PrintMore Go.Proofs.YtohlmkcgempdlaaGreatDoor.QD
/-- The range's step: string keys, int elements. -/
theorem next_ranges_si {H : Type} {P : Program} (w : World) {ops : Array Oper} {rest : List Oper} {o : Oper} {a : Act} {Q : Exit → Act → World → Prop}
  (hg : o.guard = none) (it : Operand) (hop : o.op = Op.next it false) (k e : TypeId) (qe : IntKind) (K : Keyed P k) (hk : P.underlying k = some .string) (he : P.underlying e = some (.int qe))
  (b r n : Nat) (D : DataW H) (left : Lit → Bool) (cnt : Nat) (hit : a.eval it = .pointer (some ⟨r, 0, none⟩)) (h : w.ranges P k (plainElem P e) b r n D left cnt)
  (hDone : cnt = 0 → (∀ kl, left kl = false) → wpList P ops Q rest (a.put o.dst (.tuple #[.bool false])) w)
  (hMore : ∀ (s : ByteArray) (c : Int) (w' : World) (cnt' : Nat), keyOf P k (.string s) = some (.string s.data.toList) → (Lit.int qe c).wf = true → left (.string s.data.toList) = true → (∀ zd, D.atKey (.string s.data.toList) zd = .lit (.int qe c)) → w'.ranges P k (plainElem P e) b r n D (fun z => left z && !z.sameKey (.string s.data.toList)) cnt' → cnt' < cnt →
   w.grownBy w' (some r) → w'.heap.size = w.heap.size → (Instr.entry (.pointer (some ⟨r, 0, none⟩))).run P w' = .ok (.tuple #[.string s, .int qe c]) w' → wpList P ops Q rest (a.put o.dst (.tuple #[.bool true, .string s, .int qe c])) w') :
  wpList P ops Q (o :: rest) a w :=
 wpList_next_ranges w hg it hop k K (plainElem P e) Value.string (Value.int qe) (fun key kl hkey => Maps.keyOf_string_inv hk hkey) (fun v y hv => by obtain ⟨c, rfl, _⟩ := plainElem_int_inv he hv; exact ⟨c, rfl⟩)
  b r n D left cnt hit h hDone (fun x c kl y w' cnt' hkey hlk hv hat hrg hlt hgr hsz hen => by
   obtain ⟨c', ec, ey, hwc⟩ := plainElem_int_inv he hv
   cases ec
   subst ey
   have hs : kl = .string x.data.toList := by
    simp [keyOf, hk, mapKey] at hkey
    exact hkey.2.symm
   subst hs
   exact hMore x c w' cnt' hkey hwc hlk hat hrg hlt hgr hsz hen)
/-- Behind the region that copies: the row of groups is copied, there is a new map (empty) and a new block. -/
structure CG (w0 : World) (B : Nat) (l : List (Int × List S123)) (v bm q : Option Value) (W : World) : Prop where
 bel : Below w0.heap.size w0 W
 row : ∀ v', v = some v' → Kd.R kFam 244 W B (fun _ => True) v' l
 map : ∀ u, bm = some u → ∃ k, u = .map (some k) ∧ W.heap[k]? = some (.map #[] 0) ∧ w0.heap.size ≤ k
 box : ∀ u, q = some u → ∃ k, u = .pointer (some ⟨k, 0, none⟩) ∧ W.heap[k]? = some (.cells #[.slice none 0 0, .map none, .int .i64 0] 226 (0, 0)) ∧ w0.heap.size ≤ k
section
variable {w0 W W' : World} {B : Nat} {l : List (Int × List S123)} {v bm q : Option Value}
theorem CG.start (w0 : World) (B : Nat) (l : List (Int × List S123)) : CG w0 B l none none none w0 := ⟨Below.refl _ _, (fun _ h => by cases h), (fun _ h => by cases h), (fun _ h => by cases h)⟩
theorem CG.below (h : CG w0 B l v bm q W) (hb : Below W.heap.size W W') : CG w0 B l v bm q W' :=
 ⟨h.bel.trans (hb.mono h.bel.size), fun v' e => Kd.R_below (h.row v' e) hb, fun u e => by obtain ⟨k, e1, e2, e3⟩ := h.map u e; exact ⟨k, e1, (hb.block k (Array.getElem?_eq_some_iff.1 e2).1).trans e2, e3⟩, fun u e => by obtain ⟨k, e1, e2, e3⟩ := h.box u e; exact ⟨k, e1, blk_below e2 hb, e3⟩⟩
theorem CG.mm (h : CG w0 B l v none q W) : CG w0 B l v (some (.map (some W.heap.size))) q (W.alloc (.map #[] 0)) :=
 { h.below (bz_) with map := fun u e => ⟨W.heap.size, by injection e with e; exact e.symm, (MapKept.heap_alloc W _).1, h.bel.size⟩ }
theorem CG.al (h : CG w0 B l v bm none W) : CG w0 B l v bm (some (.pointer (some ⟨W.heap.size, 0, none⟩))) (W.alloc (.cells #[.slice none 0 0, .map none, .int .i64 0] 226)) :=
 { h.below (bz_) with box := fun u e => ⟨W.heap.size, by injection e with e; exact e.symm, blk_new W _, h.bel.size⟩ }
theorem CG.app (h : CG w0 B l none bm q W) {v' : Value} (hr : Kd.R kFam 244 W' B (fun _ => True) v' l) (hg : W.grownBy W' none) : CG w0 B l (some v') bm q W' :=
 { h.below (bel_of_grown hg (Nat.le_refl _) (by intro k e; cases e)) with row := fun u e => by injection e with e; subst e; exact hr }
theorem CG.cell (h : CG w0 B l v bm q W) {p : Addr} {u : Value} (hc : w0.cell? p = some u) : W.cell? p = some u := (h.bel.cell (World.block_lt_of_cell? w0 p hc)).trans hc
theorem CG.size (h : CG w0 B l v bm q W) : w0.heap.size ≤ W.heap.size := h.bel.size
end
theorem copy_step {ops : Array Oper} {o : Oper} {a : Act} {Q : Exit → Act → World → Prop} {Kc : Act → World → Prop} {w5 W : World} {B : Nat} {l : List (Int × List S123)} {bm q : Option Value} {A : Option Addr} {c : Nat} {s x : Operand} (G : CG w5 B l none bm q W) (HR : Kd.R kFam 244 w5 B (fun _ => True) (.slice A l.length c) l) (hB : B ≤ w5.heap.size)
  (hw : Region.wanted o (yielded ops a.tmps) = true) (ho : o.op = .call { callee := .builtin .append, args := #[s, x], argTypes := #[224, 224] }) (hs : a.eval s = .slice none 0 0) (hx : a.eval x = .slice A l.length c) (hl : l.length * 32 ≤ 140737488355328)
  (h : ∀ v1 w1, CG w5 B l (some v1) bm q w1 → Kc (a.put o.dst v1) w1) :
  if Region.wanted o (yielded ops a.tmps) = true then Oper.wp Tryz.prog o a W Kc Q else Kc (a.put o.dst undef) W := by
 obtain ⟨A', c', e1, _, hr⟩ := OwnRow.reads (Kd.R_below HR G.bel).2
 injection e1 with e1 e2 e3
 subst e1
 refine Kd.R_append_rows_step kFam (w0 := W) B hw s x 224 244 (.agg #[.int .i64 0, .slice none 0 0]) 32 ho Tryz.underlying224 infoFam rfl (by decide) (by decide) (.slice none 0 0) [] l A l.length c (fun _ => True) (fun _ => True) hs hx (Kd.R_nil _ _ _ _ _) hr (fun _ _ hm => kFam.M_mono (fun _ _ => trivial) hm) (fun k _ => ⟨trivial, by simp [Value.ownBlock]⟩) (fun _ _ => trivial) (Below.refl _ _) (Nat.le_trans hB G.size) (by simpa using hl) ?_
 intro v1 w1 hr1 _ hg _
 rw [List.nil_append] at hr1
 exact h v1 w1 (G.app hr1 hg)
/-- The loop over the map that is copied: it: the iterator. -/
structure CL (w : World) (B : Nat) (l : List (Int × List S123)) (v : Value) (mg : Int) (b bm q it : Nat) (W : World) : Prop where
 bel : Below w.heap.size w W
 row : Kd.R kFam 244 W B (fun k => k ≠ bm ∧ k ≠ it) v l
 box : W.heap[q]? = some (.cells #[v, .map (some bm), .int .i64 mg] 226 (0, 0))
 res : W.heap[w.heap.size]? = some (.cells #[.slice none 0 0, .map none, .int .i64 0] 226 (0, 0))
theorem CL.grown {w W W' : World} {B : Nat} {l : List (Int × List S123)} {v : Value} {mg : Int} {b bm q it : Nat} (h : CL w B l v mg b bm q it W) {r : Nat} (hg : W.grownBy W' (some r)) (hr : r = bm ∨ r = it) (hn : w.heap.size < r) (hq : q ≠ r) : CL w B l v mg b bm q it W' :=
 ⟨h.bel.trans (bel_of_grown hg h.bel.size (fun k e => by injection e with e; omega)), Kd.R_grown h.row hg (fun k hk e => by injection e with e; have h1 := hk.1; have h2 := hk.2; omega), blk_grown h.box hg (by intro e; injection e with e; exact hq e), blk_grown h.res hg (by intro e; injection e with e; omega)⟩
set_option maxHeartbeats 4000000 in
theorem copied_calls (B g b : Nat) (t : TypeId) (rest : List Value) (gs : List (List S123)) (v : Value) (D : DataW Unit) (w : World) (hT : TB B g t rest (fun _ => True) gs v b D w) (hB : B ≤ w.heap.size) (hg0 : gs.length ≤ 1099511627776) :
  Calls Tryz.prog 163 #[.pointer (some ⟨g, 0, none⟩)] w fun e w' => ∃ (v' : Value) (bm : Nat), e = .returned (.agg #[v', .map (some bm), .int .i64 (manyOf gs)]) ∧ Kd.R kFam 244 w' B (fun _ => True) v' (famsFrom 0 gs) ∧ w'.ownsMap Tryz.prog 9 (plainElem (H := Unit) Tryz.prog 3) bm gs.length D ∧ w.heap.size ≤ bm ∧ Below w.heap.size w w' := by
 have hmm := @run_makeMap Tryz.prog
 obtain ⟨Av, cv, hv, hcv, hCv⟩ := Kd.R_reads hT.row
 subst hv
 obtain ⟨ll, hll⟩ : ∃ ll : List (Int × List S123), ll = famsFrom 0 gs := ⟨_, rfl⟩
 have hlen : ll.length = gs.length := by rw [hll, famsFrom_length]
 rw [← hll] at hcv hCv
 obtain ⟨mg, hmg⟩ : ∃ mg : Int, mg = manyOf gs := ⟨_, rfl⟩
 obtain ⟨c0, c1, c2⟩ := cells3 hT.box
 rw [← hll] at c0
 rw [← hmg] at c2 ⊢
 rw [← hll]
 have HROW : Aside0 (Kd.R kFam 244 w B (fun _ => True) (.slice Av ll.length cv) ll) := ⟨by have h_ := hT.row; rw [← hll] at h_; exact h_⟩
 have HMAP := Aside0.mk hT.map
 have HB := Aside0.mk hB
 have HGL := Aside0.mk hg0
 have HLEN := Aside0.mk hlen
 have QQ := Aside0.mk (And.intro c0 c2)
 have Q1 := Aside0.mk c1
 have HLT : Aside0 (g < w.heap.size) := ⟨blk_lt hT.box⟩
 clear hT hB hg0 hcv hCv hll hmg hlen c0 c1 c2
 go_enter Tryz.func163, Tryz.ntmps163
 go_wp2_with fail
 have C0 : Aside0 (Below w.heap.size w (World.drew (w.alloc (.cells #[.slice none 0 0, .map none, .int .i64 0] 226)))) := ⟨((Below.refl w.heap.size w).alloc (Nat.le_refl _) (.cells #[.slice none 0 0, .map none, .int .i64 0] 226)).trans ⟨rfl, rfl, rfl, Nat.le_refl _, fun _ _ => rfl⟩⟩
 have R0 : Aside0 ((World.drew (w.alloc (.cells #[.slice none 0 0, .map none, .int .i64 0] 226))).heap[w.heap.size]? = some (.cells #[.slice none 0 0, .map none, .int .i64 0] 226 (0, 0))) := ⟨blk_new w _⟩
 refine start_ (n := 13) (S := fun w' => w'.cell? ⟨g, 0, none⟩ = some (.slice Av ll.length cv) ∧ w'.cell? ⟨g, 2, none⟩ = some (.int .i64 mg)) (ds := [12]) (bm_ 13 0) (by kernel_rfl) rfl rfl ⟨(C0.out.cell HLT.out).trans QQ.out.1, (C0.out.cell HLT.out).trans QQ.out.2⟩ (fun hHeld => ?_)
 generalize World.drew _ = w5 at C0 R0 hHeld ⊢
 have QA : Aside0 (w5.cell? ⟨g, 0, none⟩ = some (.slice Av ll.length cv) ∧ w5.cell? ⟨g, 2, none⟩ = some (.int .i64 mg)) := ⟨(C0.out.cell HLT.out).trans QQ.out.1, (C0.out.cell HLT.out).trans QQ.out.2⟩
 have HROW5 := Aside0.mk (Kd.R_below HROW.out C0.out)
 have HB5 : Aside0 (B ≤ w5.heap.size) := ⟨Nat.le_trans HB.out C0.out.size⟩
 have G0 := Aside0.mk (CG.start w5 B ll)
 refine pz_ 0 6 13 1 ?_
 refine pz_ 1 7 13 3 ?_
 refine pz_ 2 8 13 7 ?_
 refine pz_ 6 12 13 71 ?_
 refine pz_ 7 13 13 199 ?_
 refine pz_ 8 14 13 455 ?_
 refine tz_ 3 9 13 463 hHeld ?_
 refine tz_ 9 15 13 975 hHeld ?_
 refine join_ (σ := Value × Value × Value) 1 (bm_ 13 4095) (fun s_ => [(10, s_.1), (11, s_.2.1), (3, s_.2.2), (16, .agg #[s_.1, s_.2.1, .int .i64 mg])]) (fun s_ w' => CG w5 B ll (some s_.1) (some s_.2.1) (some s_.2.2) w') ?_ ?_
 rotate_left
 ·intro hCont
  refine three_ (i := 4) (j := 5) (k := 11) (Ni := some 10) (Nj := some 11) (Nk := some 3) (bm_ 13 991) (bm_ 13 1007) (bm_ 13 3023) rfl rfl rfl rfl rfl rfl (by kernel_rfl) (by decide) (by decide) (by decide) (fun K hK => ?_) (fun K hK => ?_) (fun K hK => ?_)
  ·skip
   refine copy_step G0.out HROW5.out HB5.out (by rfl) (s := .const (.slice none 0 0)) (x := .tmp 9) rfl rfl rfl (by rw [HLEN.out]; have := HGL.out; omega) ?_
   intro v5 w8 hG8
   obtain ⟨A5, c5, e5⟩ := Kd.R_slice (hG8.row _ rfl)
   subst e5
   have G4 := Aside0.mk hG8
   clear hG8
   refine hK.out _ _ ⟨G4.out.cell QA.out.1, G4.out.cell QA.out.2⟩ (fun hHeld => ?_)
   clear hK K
   refine nz_ ?_
   refine two_ (i := 5) (j := 11) (Ni := some 11) (Nj := some 3) (bm_ 13 1023) (bm_ 13 3039) rfl rfl rfl rfl (by kernel_rfl) (by decide) (by decide) (fun K hK => ?_) (fun K hK => ?_)
   ·skip
    refine vz_ ?_
    have G4_5 := Aside0.mk G4.out.mm
    try simp only [World.size_alloc] at G4_5
    refine hK.out _ _ ⟨G4_5.out.cell QA.out.1, G4_5.out.cell QA.out.2⟩ (fun hHeld => ?_)
    clear hK K
    refine nz_ ?_
    refine pz_ 10 16 13 2047 ?_
    refine oz_ 11 3 13 4095 fun K hK => ?_
    refine vz_ ?_
    have G4_5_11 := Aside0.mk G4_5.out.al
    try simp only [World.size_alloc] at G4_5_11
    refine hK.out _ _ ⟨G4_5_11.out.cell QA.out.1, G4_5_11.out.cell QA.out.2⟩ (fun hHeld => ?_)
    clear hK K
    refine nz_ ?_
    exact norm_ (by simp only [putAll, Act.put, List.setIfInBounds_toArray, List.set_cons_zero, List.set_cons_succ]) (hCont (_, _, _) _ G4_5_11.out)
   ·skip
    refine vz_ ?_
    have G4_11 := Aside0.mk G4.out.al
    try simp only [World.size_alloc] at G4_11
    refine hK.out _ _ ⟨G4_11.out.cell QA.out.1, G4_11.out.cell QA.out.2⟩ (fun hHeld => ?_)
    clear hK K
    refine nz_ ?_
    refine oz_ 5 11 13 3071 fun K hK => ?_
    refine vz_ ?_
    have G4_11_5 := Aside0.mk G4_11.out.mm
    try simp only [World.size_alloc] at G4_11_5
    refine hK.out _ _ ⟨G4_11_5.out.cell QA.out.1, G4_11_5.out.cell QA.out.2⟩ (fun hHeld => ?_)
    clear hK K
    refine nz_ ?_
    refine pz_ 10 16 13 4095 ?_
    exact norm_ (by simp only [putAll, Act.put, List.setIfInBounds_toArray, List.set_cons_zero, List.set_cons_succ]) (hCont (_, _, _) _ G4_11_5.out)
  ·skip
   refine vz_ ?_
   have G5 := Aside0.mk G0.out.mm
   try simp only [World.size_alloc] at G5
   refine hK.out _ _ ⟨G5.out.cell QA.out.1, G5.out.cell QA.out.2⟩ (fun hHeld => ?_)
   clear hK K
   refine nz_ ?_
   refine two_ (i := 4) (j := 11) (Ni := some 10) (Nj := some 3) (bm_ 13 1023) (bm_ 13 3055) rfl rfl rfl rfl (by kernel_rfl) (by decide) (by decide) (fun K hK => ?_) (fun K hK => ?_)
   ·skip
    refine copy_step G5.out HROW5.out HB5.out (by rfl) (s := .const (.slice none 0 0)) (x := .tmp 9) rfl rfl rfl (by rw [HLEN.out]; have := HGL.out; omega) ?_
    intro v5 w8 hG8
    obtain ⟨A5, c5, e5⟩ := Kd.R_slice (hG8.row _ rfl)
    subst e5
    have G5_4 := Aside0.mk hG8
    clear hG8
    refine hK.out _ _ ⟨G5_4.out.cell QA.out.1, G5_4.out.cell QA.out.2⟩ (fun hHeld => ?_)
    clear hK K
    refine nz_ ?_
    refine pz_ 10 16 13 2047 ?_
    refine oz_ 11 3 13 4095 fun K hK => ?_
    refine vz_ ?_
    have G5_4_11 := Aside0.mk G5_4.out.al
    try simp only [World.size_alloc] at G5_4_11
    refine hK.out _ _ ⟨G5_4_11.out.cell QA.out.1, G5_4_11.out.cell QA.out.2⟩ (fun hHeld => ?_)
    clear hK K
    refine nz_ ?_
    exact norm_ (by simp only [putAll, Act.put, List.setIfInBounds_toArray, List.set_cons_zero, List.set_cons_succ]) (hCont (_, _, _) _ G5_4_11.out)
   ·skip
    refine vz_ ?_
    have G5_11 := Aside0.mk G5.out.al
    try simp only [World.size_alloc] at G5_11
    refine hK.out _ _ ⟨G5_11.out.cell QA.out.1, G5_11.out.cell QA.out.2⟩ (fun hHeld => ?_)
    clear hK K
    refine nz_ ?_
    refine oz_ 4 10 13 3071 fun K hK => ?_
    refine copy_step G5_11.out HROW5.out HB5.out (by rfl) (s := .const (.slice none 0 0)) (x := .tmp 9) rfl rfl rfl (by rw [HLEN.out]; have := HGL.out; omega) ?_
    intro v5 w8 hG8
    obtain ⟨A5, c5, e5⟩ := Kd.R_slice (hG8.row _ rfl)
    subst e5
    have G5_11_4 := Aside0.mk hG8
    clear hG8
    refine hK.out _ _ ⟨G5_11_4.out.cell QA.out.1, G5_11_4.out.cell QA.out.2⟩ (fun hHeld => ?_)
    clear hK K
    refine nz_ ?_
    refine pz_ 10 16 13 4095 ?_
    exact norm_ (by simp only [putAll, Act.put, List.setIfInBounds_toArray, List.set_cons_zero, List.set_cons_succ]) (hCont (_, _, _) _ G5_11_4.out)
  ·skip
   refine vz_ ?_
   have G11 := Aside0.mk G0.out.al
   try simp only [World.size_alloc] at G11
   refine hK.out _ _ ⟨G11.out.cell QA.out.1, G11.out.cell QA.out.2⟩ (fun hHeld => ?_)
   clear hK K
   refine nz_ ?_
   refine two_ (i := 4) (j := 5) (Ni := some 10) (Nj := some 11) (bm_ 13 3039) (bm_ 13 3055) rfl rfl rfl rfl (by kernel_rfl) (by decide) (by decide) (fun K hK => ?_) (fun K hK => ?_)
   ·skip
    refine copy_step G11.out HROW5.out HB5.out (by rfl) (s := .const (.slice none 0 0)) (x := .tmp 9) rfl rfl rfl (by rw [HLEN.out]; have := HGL.out; omega) ?_
    intro v5 w8 hG8
    obtain ⟨A5, c5, e5⟩ := Kd.R_slice (hG8.row _ rfl)
    subst e5
    have G11_4 := Aside0.mk hG8
    clear hG8
    refine hK.out _ _ ⟨G11_4.out.cell QA.out.1, G11_4.out.cell QA.out.2⟩ (fun hHeld => ?_)
    clear hK K
    refine nz_ ?_
    refine oz_ 5 11 13 3071 fun K hK => ?_
    refine vz_ ?_
    have G11_4_5 := Aside0.mk G11_4.out.mm
    try simp only [World.size_alloc] at G11_4_5
    refine hK.out _ _ ⟨G11_4_5.out.cell QA.out.1, G11_4_5.out.cell QA.out.2⟩ (fun hHeld => ?_)
    clear hK K
    refine nz_ ?_
    refine pz_ 10 16 13 4095 ?_
    exact norm_ (by simp only [putAll, Act.put, List.setIfInBounds_toArray, List.set_cons_zero, List.set_cons_succ]) (hCont (_, _, _) _ G11_4_5.out)
   ·skip
    refine vz_ ?_
    have G11_5 := Aside0.mk G11.out.mm
    try simp only [World.size_alloc] at G11_5
    refine hK.out _ _ ⟨G11_5.out.cell QA.out.1, G11_5.out.cell QA.out.2⟩ (fun hHeld => ?_)
    clear hK K
    refine nz_ ?_
    refine oz_ 4 10 13 3071 fun K hK => ?_
    refine copy_step G11_5.out HROW5.out HB5.out (by rfl) (s := .const (.slice none 0 0)) (x := .tmp 9) rfl rfl rfl (by rw [HLEN.out]; have := HGL.out; omega) ?_
    intro v5 w8 hG8
    obtain ⟨A5, c5, e5⟩ := Kd.R_slice (hG8.row _ rfl)
    subst e5
    have G11_5_4 := Aside0.mk hG8
    clear hG8
    refine hK.out _ _ ⟨G11_5_4.out.cell QA.out.1, G11_5_4.out.cell QA.out.2⟩ (fun hHeld => ?_)
    clear hK K
    refine nz_ ?_
    refine pz_ 10 16 13 4095 ?_
    exact norm_ (by simp only [putAll, Act.put, List.setIfInBounds_toArray, List.set_cons_zero, List.set_cons_succ]) (hCont (_, _, _) _ G11_5_4.out)
 rintro ⟨v6, u6, p6⟩ w6 hG6
 have hHeld : w6.cell? ⟨g, 0, none⟩ = some (.slice Av ll.length cv) ∧ w6.cell? ⟨g, 2, none⟩ = some (.int .i64 mg) := ⟨hG6.cell QA.out.1, hG6.cell QA.out.2⟩
 obtain ⟨bm, eu, hbm, hbm0⟩ := hG6.map _ rfl
 obtain ⟨pq, ep, hpq, hpq0⟩ := hG6.box _ rfl
 have hr6 := hG6.row _ rfl
 obtain ⟨A6, n6, e6⟩ := Kd.R_slice hr6
 dsimp only at eu ep e6 hr6
 subst eu ep e6
 have G6 := Aside0.mk hG6.bel
 have HBM := Aside0.mk hbm
 have HPQ := Aside0.mk hpq
 have HR6 := Aside0.mk hr6
 have HBM0 := Aside0.mk hbm0
 have HPQ0 := Aside0.mk hpq0
 clear hG6 hbm hpq hr6 hbm0 hpq0
 refine norm_ (a' := ?_) ?_ ?_
 rotate_left
 ·simp only [putAll, Act.put, List.setIfInBounds_toArray, List.set_cons_zero, List.set_cons_succ]
  rfl
 refine last_ (i := 12) (N := none) (bm_ 13 8191) rfl rfl (by kernel_rfl) (by decide) (fun K hK => ?_)
 have hs0_ : w6.cell? ⟨pq, 0, none⟩ = some (.slice none 0 0) := (blk_cell HPQ.out 0).trans rfl
 have hs1_ : w6.cell? ⟨pq, 1, none⟩ = some (.map none) := (blk_cell HPQ.out 1).trans rfl
 have hs2_ : w6.cell? ⟨pq, 2, none⟩ = some (.int .i64 0) := (blk_cell HPQ.out 2).trans rfl
 have hf0_ : w6.frozen? ⟨pq, 0, none⟩ = false := blk_frozen HPQ.out 0
 have hf1_ : w6.frozen? ⟨pq, 1, none⟩ = false := blk_frozen HPQ.out 1
 have hf2_ : w6.frozen? ⟨pq, 2, none⟩ = false := blk_frozen HPQ.out 2
 refine sz_ ?_
 refine hK.out _ _ ?_
 clear hK K
 refine dz_ ?_

 have hsz5 : w.heap.size < w5.heap.size := blk_lt R0.out
 have bx7 := blk_set (blk_set (blk_set HPQ.out 0 (.slice A6 ll.length n6)) 1 (.map (some bm))) 2 (.int .i64 mg)
 have hne : bm ≠ pq := by rintro rfl; have h_ := HBM.out; rw [HPQ.out] at h_; cases h_
 have hpq0 := HPQ0.out
 have hbm0 := HBM0.out
 have row7 := Kd.R_set (Kd.R_set (Kd.R_set HR6.out HPQ.out (by decide) 0 (.slice A6 ll.length n6)) (blk_set HPQ.out 0 (.slice A6 ll.length n6)) (by decide) 1 (.map (some bm))) (blk_set (blk_set HPQ.out 0 (.slice A6 ll.length n6)) 1 (.map (some bm))) (by decide) 2 (.int .i64 mg)
 have bel7 : Below w5.heap.size w5 (((w6.setCell ⟨pq, 0, none⟩ (.slice A6 ll.length n6)).setCell ⟨pq, 1, none⟩ (.map (some bm))).setCell ⟨pq, 2, none⟩ (.int .i64 mg)) := ((G6.out.setCell (B := w5.heap.size) (p := ⟨pq, 0, none⟩) hpq0 _).setCell (p := ⟨pq, 1, none⟩) hpq0 _).setCell (p := ⟨pq, 2, none⟩) hpq0 _
 have oth7 : ∀ k, k ≠ pq → (((w6.setCell ⟨pq, 0, none⟩ (.slice A6 ll.length n6)).setCell ⟨pq, 1, none⟩ (.map (some bm))).setCell ⟨pq, 2, none⟩ (.int .i64 mg)).heap[k]? = w6.heap[k]? := fun k hk => ((Below.heap_setCell _ ⟨pq, 2, none⟩ _ k hk).trans (Below.heap_setCell _ ⟨pq, 1, none⟩ _ k hk)).trans (Below.heap_setCell w6 ⟨pq, 0, none⟩ _ k hk)
 have map7 := (oth7 bm hne).trans HBM.out
 have res7 := (oth7 w.heap.size (by omega)).trans (blk_below R0.out G6.out)
 have bx7' : (((w6.setCell ⟨pq, 0, none⟩ (.slice A6 ll.length n6)).setCell ⟨pq, 1, none⟩ (.map (some bm))).setCell ⟨pq, 2, none⟩ (.int .i64 mg)).heap[pq]? = some (.cells #[(.slice A6 ll.length n6), .map (some bm), .int .i64 mg] 226 (0, 0)) := by simpa using bx7
 clear bx7 oth7
 generalize (((w6.setCell ⟨pq, 0, none⟩ (.slice A6 ll.length n6)).setCell ⟨pq, 1, none⟩ (.map (some bm))).setCell ⟨pq, 2, none⟩ (.int .i64 mg)) = w7 at bel7 row7 map7 res7 bx7' ⊢
 have belw := C0.out.trans (bel7.mono (Nat.le_of_lt hsz5))
 have HOWN := Aside0.mk (HMAP.out.kept (grown_of_below belw none) (by simp))
 have q1 : w7.cell? ⟨g, 1, none⟩ = some (.map (some b)) := (belw.cell HLT.out).trans Q1.out
 have HNE := Aside0.mk hne
 have HS5 := Aside0.mk hsz5
 have HB7 := Aside0.mk belw
 have HBEL7 := Aside0.mk bel7
 have HROW7 := Aside0.mk row7
 have HM7 := Aside0.mk map7
 have HRES7 := Aside0.mk res7
 have HBX7 := Aside0.mk bx7'
 have HLB : Aside0 (b < w.heap.size) := ⟨HMAP.out.lt⟩
 clear hne hsz5 belw bel7 row7 map7 res7 bx7' hpq0 hbm0
 go_wp2_with (at_range; refine wpList_range_own _ rfl _ 223 rfl 9 3 placesLaw Tryz.underlying223 _ b gs.length _ rfl HOWN.out ?_; intro w8 hrg0 hg0 hs0)
 go_frame
 have CL0 : CL w B ll (.slice A6 ll.length n6) mg b bm pq w7.heap.size w8 := ⟨HB7.out.trans (bel_of_grown hg0 HB7.out.size (by intro k e; cases e)), Kd.R_mono (Kd.R_grown (Kd.R_bound HROW7.out) hg0 (by intro k _ e; cases e)) (fun k hk => ⟨fun e => by obtain ⟨_, _, _, q_, _, cells_, hc_⟩ := hk; rw [e, HM7.out] at hc_; simp at hc_, fun e => by have := hk.2.2.1; omega⟩), blk_grown HBX7.out hg0 (by simp), blk_grown HRES7.out hg0 (by simp)⟩
 have OM0 : w8.ownsMap Tryz.prog 9 (plainElem (H := Unit) Tryz.prog 3) bm 0 (.map []) := World.ownsMap.kept (w := w7) ⟨#[], 0, HM7.out, ⟨by simp, MapKept.stamped_empty 0, by simp⟩, Nat.le_refl _, rfl⟩ hg0 (by simp)
 have hbq : bm < w7.heap.size ∧ pq < w7.heap.size := ⟨(Array.getElem?_eq_some_iff.1 HM7.out).1, blk_lt HBX7.out⟩
 have HBQ := Aside0.mk hbq
 clear hbq
 obtain ⟨it, hit⟩ : ∃ it, it = w7.heap.size := ⟨_, rfl⟩
 rw [← hit] at CL0 hrg0 HBQ ⊢
 have HIT := Aside0.mk hit
 clear hg0 hs0 q1 hit
 go_loopw [4, 5] (fun _ _ W => ∃ (left : Lit → Bool) (cnt : Nat) (Dout : DataW Unit), W.ranges Tryz.prog 9 (plainElem (H := Unit) Tryz.prog 3) b it gs.length D left cnt ∧ cnt ≤ Maps.size D ∧ W.ownsMap Tryz.prog 9 (plainElem (H := Unit) Tryz.prog 3) bm (Maps.size D - cnt) Dout ∧ Agree Dout D left ∧ CL w B ll (.slice A6 ll.length n6) mg b bm pq it W) (fun _ _ W => W.rangeLeft b it)
 case atStart => exact ⟨_, _, .map [], hrg0, Nat.le_refl _, OM0.mono (Nat.zero_le _), agree_start D, CL0⟩
 case round =>
  clear CL0 OM0 hrg0
  obtain ⟨left, cnt, Dout, hrg, hcs, hout, hA, hcl⟩ := hrel
  have HCL := Aside0.mk hcl
  have HRG := Aside0.mk hrg
  have HOUT := Aside0.mk hout
  have HA := Aside0.mk hA
  have HCS := Aside0.mk hcs
  clear hcl hrg hout hA hcs
  go_wp2_with (at_next; refine next_ranges_si _ rfl _ rfl 9 3 .i64 placesLaw Tryz.underlying9 Tryz.underlying3 b it gs.length _ _ _ rfl HRG.out ?_ ?_)
  ·intro hc0 hl0
   have p0 : wr.cell? ⟨pq, 0, none⟩ = some (.slice A6 ll.length n6) := (blk_cell HCL.out.box 0).trans rfl
   have p1 : wr.cell? ⟨pq, 1, none⟩ = some (.map (some bm)) := (blk_cell HCL.out.box 1).trans rfl
   have p2 : wr.cell? ⟨pq, 2, none⟩ = some (.int .i64 mg) := (blk_cell HCL.out.box 2).trans rfl
   have r0 : wr.cell? ⟨w.heap.size, 0, none⟩ = some (.slice none 0 0) := (blk_cell HCL.out.res 0).trans rfl
   have f0 : wr.frozen? ⟨w.heap.size, 0, none⟩ = false := blk_frozen HCL.out.res 0
   have r1 : wr.cell? ⟨w.heap.size, 1, none⟩ = some (.map none) := (blk_cell HCL.out.res 1).trans rfl
   have f1 : wr.frozen? ⟨w.heap.size, 1, none⟩ = false := blk_frozen HCL.out.res 1
   have r2 : wr.cell? ⟨w.heap.size, 2, none⟩ = some (.int .i64 0) := (blk_cell HCL.out.res 2).trans rfl
   have f2 : wr.frozen? ⟨w.heap.size, 2, none⟩ = false := blk_frozen HCL.out.res 2
   go_wp2_with fail
   subst hc0
   have e_ := agree_end HA.out hl0 (HOUT.out.canon placesLaw) (HOWN.out.canon placesLaw)
   subst e_
   have bx9 := blk_set (blk_set (blk_set HCL.out.res 0 (.slice A6 ll.length n6)) 1 (.map (some bm))) 2 (.int .i64 mg)
   refine bodyPost_ret (results_cell_row rfl _ _ w.heap.size 226 #[(.slice A6 ll.length n6), .map (some bm), .int .i64 mg] (0, 0) _ rfl (by simpa using bx9) Tryz.underlying226 rfl (by kernel_rfl)) rfl ?_
   have belx := ((HCL.out.bel.setCell (B := w.heap.size) (p := ⟨w.heap.size, 0, none⟩) (Nat.le_refl _) (.slice A6 ll.length n6)).setCell (p := ⟨w.heap.size, 1, none⟩) (Nat.le_refl _) (.map (some bm))).setCell (p := ⟨w.heap.size, 2, none⟩) (Nat.le_refl _) (.int .i64 mg)
   have hne9 : bm ≠ w.heap.size := by have := HBM0.out; have := HS5.out; omega
   have rowx := Kd.R_set (Kd.R_set (Kd.R_set HCL.out.row HCL.out.res (by decide) 0 (.slice A6 ll.length n6)) (blk_set HCL.out.res 0 (.slice A6 ll.length n6)) (by decide) 1 (.map (some bm))) (blk_set (blk_set HCL.out.res 0 (.slice A6 ll.length n6)) 1 (.map (some bm))) (by decide) 2 (.int .i64 mg)
   have ks : ∀ {W : World} {n : Nat} (i : Nat) (u : Value), W.ownsMap Tryz.prog 9 (plainElem (H := Unit) Tryz.prog 3) bm n Dout → (W.setCell ⟨w.heap.size, i, none⟩ u).ownsMap Tryz.prog 9 (plainElem (H := Unit) Tryz.prog 3) bm n Dout := fun {W n} i u h => h.kept (row := some w.heap.size) ⟨rfl, rfl, rfl, by simp, fun k _ hk => Below.heap_setCell W ⟨w.heap.size, i, none⟩ u k (by rintro rfl; exact hk rfl)⟩ (by intro e; injection e with e; exact hne9 e)
   exact ⟨_, bm, rfl, Kd.R_mono rowx (fun _ _ => trivial), ks 2 _ (ks 1 _ (ks 0 _ (HOUT.out.mono (by have := HOWN.out.size_le; omega)))), by have := HBM0.out; have := HS5.out; omega, belx⟩
  ·intro sk ca w9 cnt1 hkey hwc hlk hat hrg1 hlt hg1 hs1 hen
   have hout1 := Aside0.mk (HOUT.out.kept hg1 (by have := HBQ.out; have := HIT.out; intro e; injection e with e; omega))
   have CL1 := Aside0.mk (HCL.out.grown hg1 (Or.inr rfl) (by have := HS5.out; have := HBEL7.out.size; have := HIT.out; omega) (by have := HBQ.out; have := HIT.out; omega))
   have HKEY := Aside0.mk hkey
   have HWC := Aside0.mk hwc
   have HRG1 := Aside0.mk hrg1
   have HG1 := Aside0.mk hg1
   have HLT1 := Aside0.mk hlt
   have HAT := Aside0.mk hat
   have p1 : w9.cell? ⟨pq, 1, none⟩ = some (.map (some bm)) := (blk_cell CL1.out.box 1).trans rfl
   clear hkey hwc hlk hat hrg1 hlt hg1 hs1
   go_wp2_with (at_mapUpdate; refine wpList_mapUpdate_own _ rfl _ _ _ 223 rfl 9 3 placesLaw Tryz.underlying223 _ bm _ _ rfl hout1.out (by have := HOWN.out.size_le; have := HGL.out; unfold maxLen; omega) _ _ _ rfl rfl HKEY.out _ [] (plainElem_int Tryz.underlying3 HWC.out) ?_; intro w10 hout2 hg2; go_frame)
   have hrg2 := HRG1.out.kept hg2 (fun e => by have := Option.some.inj e; have := HBM0.out; have := HS5.out; have := HLB.out; omega) (fun e => by have := Option.some.inj e; have := HBQ.out; have := HIT.out; omega)
   go_roundw
   case rel => exact ⟨_, cnt1, _, hrg2, by have := HLT1.out; have := HCS.out; omega, hout2.mono (by have := HLT1.out; have := HCS.out; omega), agree_step HA.out HOUT.out.isMap (by trivial) HAT.out, CL1.out.grown hg2 (Or.inl rfl) (by have := HBM0.out; have := HS5.out; omega) (fun e => HNE.out e.symm)⟩
   case measure => rw [hrg2.left_eq, HRG.out.left_eq]; exact HLT1.out
/-- What Table.Add answers and leaves: c: is the list closed; st: what adding comes to. -/
def TAddOut (B g b : Nat) (gs : List (List S123)) (c : Prop) (st : Option (List (List S123) × List Int)) (w : World) (e : Ending) (w' : World) : Prop :=
 (¬ c ∧ ∃ n : Int, e = .returned (.tuple #[.slice none 0 0, .int .i64 n, .int .i64 50]) ∧ Below w.heap.size w w') ∨
 (c ∧ match st with
  | none => (∃ n : Int, e = .returned (.tuple #[.slice none 0 0, .int .i64 n, .int .i64 2])) ∧ FrA B w.heap.size w.heap.size w w'
  | some (gs', ids) => ∃ (vi v' : Value) (b' : Nat) (D' : DataW Unit), e = .returned (.tuple #[vi, .int .i64 0, .int .i64 0]) ∧ TB B g 228 [.bool true] (fun k => True ∧ some k ≠ vi.ownBlock) gs' v' b' D' w' ∧ Kd.R (Kd.int .i64) 3 w' w.heap.size (fun _ => True) vi ids ∧ FrA B g b w w')
theorem FrA.sub {B g b g' b' : Nat} {w0 w1 W : World} (hb : Below w0.heap.size w0 w1) (h : FrA B g' b' w1 W) (hB : B ≤ w0.heap.size) (hg : w0.heap.size ≤ g') (hb' : w0.heap.size ≤ b') : FrA B g b w0 W :=
 ⟨(hb.mono hB).trans h.bel, fun k o hk h1 h2 h3 => h.oth k o ((hb.block k (Array.getElem?_eq_some_iff.1 hk).1).trans hk) (by have := (Array.getElem?_eq_some_iff.1 hk).1; omega) (by have := (Array.getElem?_eq_some_iff.1 hk).1; omega) h3, hB⟩
set_option maxHeartbeats 4000000 in
theorem tadd_calls (B g b : Nat) (gs : List (List S123)) (v : Value) (D : DataW Unit) (A : Option Addr) (c : Nat) (l : List S132) (w : World) (hT : TB B g 228 [.bool true] (fun _ => True) gs v b D w) (hB : B ≤ w.heap.size)
  (hC : Kd.C k132 w A l.length l) (hcap : l.length ≤ c) (hLR : ∀ g' b' w1, Below w.heap.size w w1 → w.heap.size ≤ g' → w.heap.size ≤ b' → LR (fun W => FrA B g' b' w1 W) A l)
  (hsok : ∀ r ∈ l, ∀ s ∈ r.f0, SOk (fun _ => True) s) (hin : Clo l → ∀ r ∈ l, ∀ s ∈ r.f0, RIn s) (hw : wL l ≤ 1048576) (hl : l.length ≤ 1048576) (hm0 : manyOf gs ≤ 1099511627776) (hg0 : gs.length ≤ 1099511627776) :
  Calls Tryz.prog 151 #[.pointer (some ⟨g, 0, none⟩), .slice A l.length c] w fun e w' => TAddOut B g b gs (Clo l) (addTo 10000 (gs, []) l) w e w' := by
 have hc3 : w.cell? ⟨g, 3, none⟩ = some (.bool true) := (blk_cell hT.box 3).trans (by simp)
 have HT := Aside0.mk hT
 have HB := Aside0.mk hB
 have HC := Aside0.mk hC
 have HLR := Aside0.mk hLR
 have HSOK := Aside0.mk hsok
 have HIN := Aside0.mk hin
 have HW := Aside0.mk hw
 have HM0 := Aside0.mk hm0
 have HG0 := Aside0.mk hg0
 have HL := Aside0.mk hl
 clear hT hB hC hLR hsok hin hw hm0 hg0
 go_enter Tryz.func151, Tryz.ntmps151
 go_wp2_with fail
 refine (none_made g _ hc3).mono ?_
 rintro e w1 ⟨rfl, hw1⟩
 obtain rfl := hw1.symm
 go_wp2_with fail
 have htc : tcount l ≤ 1048576 := by have := tcount_le_wL l; have := HW.out; omega
 refine (closed_calls A c l _ HC.out hcap (by omega) (by omega) HSOK.out).mono ?_
 rintro e w2 ⟨⟨n, er, rfl, hcl⟩, hb2⟩
 rcases hcl with ⟨rfl, rfl, hclo⟩ | ⟨rfl, hclo⟩
 rotate_left
 ·go_wp2_with fail
  go_ret3
  exact Or.inl ⟨hclo, n, rfl, hb2⟩
 have HCLO := Aside0.mk hclo
 have HB2 := Aside0.mk hb2
 have HT2 := Aside0.mk (HT.out.below hb2 HB.out)
 clear hclo hb2 htc
 go_wp2_with fail
 have hBz : B ≤ w2.heap.size := Nat.le_trans HB.out HB2.out.size
 refine (copied_calls B g b 228 [.bool true] gs v D w2 HT2.out hBz HG0.out).mono ?_
 rintro e w3 ⟨v', bm, rfl, hr3, hm3, hbm, hb3⟩
 obtain ⟨A3, c3, e3⟩ := Kd.R_slice hr3
 rw [famsFrom_length] at e3
 subst e3
 have HB3 := Aside0.mk hb3
 have HBZ := Aside0.mk hBz
 have HBM := Aside0.mk hbm
 obtain ⟨mg, hmg⟩ : ∃ mg : Int, mg = manyOf gs := ⟨_, rfl⟩
 have T3 : Aside0 (TB B w3.heap.size 226 [] (fun _ => True) gs (.slice A3 gs.length c3) bm D (w3.alloc (.cells #[.slice A3 gs.length c3, .map (some bm), .int .i64 mg] 226))) := ⟨{
  box := by rw [hmg]; exact blk_new w3 _
  row := Kd.R_below hr3 (bz_)
  map := hm3.alloc _
  pm := HT2.out.pm
  hg := Nat.le_trans hBz hb3.size
  hb := Nat.le_trans hBz hbm
  tab := (HT2.out.tab.on (hb3.mono hBz)).on ((Below.refl B _).alloc (Nat.le_trans hBz hb3.size) _) }⟩
 have HMG := Aside0.mk hmg
 rw [← hmg]
 clear hr3 hm3 hbm hb3 hBz hmg
 go_wp2_with fail
 have hbw : Below w.heap.size w (w3.alloc (.cells #[.slice A3 gs.length c3, .map (some bm), .int .i64 mg] 226)) := (HB2.out.trans (HB3.out.mono HB2.out.size)).trans ((Below.refl w.heap.size _).alloc (Nat.le_trans HB2.out.size HB3.out.size) _)
 have hz1 : w.heap.size ≤ w3.heap.size := Nat.le_trans HB2.out.size HB3.out.size
 have hz2 : w.heap.size ≤ bm := Nat.le_trans HB2.out.size HBM.out
 have HBW := Aside0.mk hbw
 have HZ1 := Aside0.mk hz1
 have HZ2 := Aside0.mk hz2
 refine (add_calls ⟨B, w3.heap.size, 226, [], gs, bm, l, 10000, w3.alloc (.cells #[.slice A3 gs.length c3, .map (some bm), .int .i64 mg] 226)⟩ _ D A c T3.out (Or.inr rfl) (Nat.le_trans HB.out hbw.size) (HLR.out _ _ _ hbw hz1 hz2) hcap (HIN.out HCLO.out) HW.out HL.out HM0.out HG0.out ⟨by show (0 : Int) ≤ 10000; decide, by show (10000 : Int) ≤ 9223372036854775807; decide⟩).mono ?_
 intro e w4 hout
 unfold AddOut at hout
 dsimp only at hout
 obtain ⟨st, hst⟩ : ∃ st, st = addTo 10000 (gs, []) l := ⟨_, rfl⟩
 rw [← hst] at hout
 have HST := Aside0.mk hst
 clear hst hbw hz1 hz2
 rcases st with _ | ⟨gs', ids⟩
 ·obtain ⟨n, gs1, v1, D1, rfl, ht4, hf4⟩ := hout
  have HF := Aside0.mk hf4
  clear ht4 hf4
  have hn0 : (0 : Int) ≤ n := by omega
  go_wp2_with fail
  go_ret3
  refine Or.inr ⟨HCLO.out, ?_⟩
  rw [← HST.out]
  exact ⟨⟨n, rfl⟩, FrA.sub HBW.out HF.out HB.out HZ1.out HZ2.out⟩
 ·obtain ⟨v4, D4, vi, rfl, hai⟩ := hout
  have HAI := Aside0.mk hai
  have T4 := Aside0.mk hai.tb
  have HF := Aside0.mk (FrA.sub (g := g) (b := b) HBW.out hai.fr HB.out HZ1.out HZ2.out)
  have hbx := T4.out.box
  dsimp only at hbx
  obtain ⟨q0, q1, q2⟩ := cells3 hbx
  obtain ⟨A4, n4, c4, e4⟩ : ∃ A4 n4 c4, v4 = .slice A4 n4 c4 := by obtain ⟨A4, c4, e4⟩ := Kd.R_slice T4.out.row; exact ⟨_, _, _, e4⟩
  subst e4
  have bx : w4.heap[g]? = some (.cells (v :: .map (some b) :: .int .i64 (manyOf gs) :: [.bool true]).toArray 228 (0, 0)) := by
   refine hai.fr.oth g _ ?_ ?_ ?_ ?_
   ·exact (HBW.out.block g (blk_lt HT.out.box)).trans HT.out.box
   ·dsimp only; have := HZ1.out; have := blk_lt HT.out.box; omega
   ·dsimp only; have := HZ2.out; have := blk_lt HT.out.box; omega
   ·intro c_ fz_ e_; injection e_ with _ e_; exact absurd e_ (by decide)
  have BX := Aside0.mk bx
  obtain ⟨m4, hm4⟩ : ∃ m4 : Int, m4 = manyOf gs' := ⟨_, rfl⟩
  rw [← hm4] at q2
  have HM4 := Aside0.mk hm4
  obtain ⟨r0, r1, r2⟩ := cells3 bx
  have f0 : w4.frozen? ⟨g, 0, none⟩ = false := blk_frozen bx 0
  have f1 : w4.frozen? ⟨g, 1, none⟩ = false := blk_frozen bx 1
  have f2 : w4.frozen? ⟨g, 2, none⟩ = false := blk_frozen bx 2
  clear hai hbx bx hm4
  go_wp2_with fail
  go_ret3
  refine Or.inr ⟨HCLO.out, ?_⟩
  rw [← HST.out]
  have b1 := blk_set (blk_set (blk_set BX.out 0 (.slice A4 n4 c4)) 1 (.map (some bm))) 2 (.int .i64 m4)
  have hg : B ≤ g := HT.out.hg
  refine ⟨vi, .slice A4 n4 c4, bm, D4, rfl, ?_, ?_, ?_⟩
  ·refine ⟨by rw [← HM4.out]; simpa using b1, ?_, ?_, HAI.out.tb.pm, hg, HAI.out.tb.hb, ?_⟩
   ·exact Kd.R_set (Kd.R_set (Kd.R_set T4.out.row BX.out (by decide) 0 _) (blk_set BX.out 0 _) (by decide) 1 _) (blk_set (blk_set BX.out 0 _) 1 _) (by decide) 2 _
   ·have hne : bm ≠ g := by have := HZ2.out; have := blk_lt HT.out.box; omega
    have ks : ∀ {W : World} {n : Nat} (i : Nat) (u : Value), W.ownsMap Tryz.prog 9 (plainElem (H := Unit) Tryz.prog 3) bm n D4 → (W.setCell ⟨g, i, none⟩ u).ownsMap Tryz.prog 9 (plainElem (H := Unit) Tryz.prog 3) bm n D4 := fun {W n} i u h => h.kept (row := some g) ⟨rfl, rfl, rfl, by simp, fun k _ hk => Below.heap_setCell W ⟨g, i, none⟩ u k (by rintro rfl; exact hk rfl)⟩ (by intro e; injection e with e; exact hne e)
    exact ks 2 _ (ks 1 _ (ks 0 _ T4.out.map))
   ·exact T4.out.tab.on ((((Below.refl B _).setCell (p := ⟨g, 0, none⟩) hg _).setCell (p := ⟨g, 1, none⟩) hg _).setCell (p := ⟨g, 2, none⟩) hg _)
  ·exact Kd.R_set (Kd.R_set (Kd.R_set (Kd.R_lower HAI.out.iv (by have := HBW.out.size; exact this)) BX.out (by decide) 0 _) (blk_set BX.out 0 _) (by decide) 1 _) (blk_set (blk_set BX.out 0 _) 1 _) (by decide) 2 _
  ·exact ((HF.out.store hg 0 _).store hg 1 _).store hg 2 _
end Go.Proofs.YtohlmkcgempdlaaGreatDoor.Cn
namespace Go.Proofs.YtohlmkcgempdlaaGreatDoor.Cn
set_option linter.unusedSimpArgs false
set_option maxRecDepth 100000
set_option linter.unusedVariables false
open Go.RowKit Go.Maps Go.Proofs.YtohlmkcgempdlaaGreatDoorW.PrintWords Go.Proofs.YtohlmkcgempdlaaGreatDoorW.PrintLast Go.Proofs.YtohlmkcgempdlaaGreatDoorW.PrintMore Go.Proofs.YtohlmkcgempdlaaGreatDoor.QD
end Go.Proofs.YtohlmkcgempdlaaGreatDoor.Cn
namespace Go.Proofs.YtohlmkcgempdlaaGreatDoor.QD
open Go.RowKit Go.Proofs.YtohlmkcgempdlaaGreatDoorW.PrintWords Go.Proofs.YtohlmkcgempdlaaGreatDoorW.PrintLast Go.Proofs.YtohlmkcgempdlaaGreatDoorW.PrintMore
attribute [local go_sem] max2_int min2_int max_two min_two max_three min_three max_four min_four 
set_option linter.unusedVariables false
set_option linter.unusedSimpArgs false
set_option maxRecDepth 100000
def types_Count.l0 : Nat → Int → List (S132) → Int → Int → Option (Int)
 | 0, _, _, _, _ => none
 | k + 1, x3, x6, x7, x8 => if x8 < x7 then (if 0 ≤ x8 then (if x8 < (x6.length : Int) then (types_Count.l0 k (wrap64 (x3 + (((rd_T132 x6 x8).f0).length : Int))) x6 x7 (wrap64 (x8 + 1))) else (none)) else (none)) else (some x3)
def types_Count.f (k : Nat) (l0 : List (S132)) : Option (Int) := types_Count.l0 k 0 l0 (l0.length : Int) 0
set_option maxHeartbeats 8000000 in
theorem types_Count.calls (k : Nat) (A0 : Option Addr) (c0 : Nat) (l0 : List (S132)) (r : Int) (w : World) (hr0 : Kd.C k132 w A0 l0.length l0) (hc0 : l0.length ≤ c0) (h : types_Count.f k l0 = some r) :
  Calls Tryz.prog 60 #[.slice A0 l0.length c0] w fun e w' => e = .returned (.int .i64 r) ∧ Below w.heap.size w w' := by
 have hu132 := Tryz.underlying132
 have HR0 := Aside0.mk hr0
 have HC0 := Aside0.mk hc0
 clear hr0 hc0
 have HB := Aside0.mk (Below.refl w.heap.size w)
 have H : (types_Count.l0 k 0 l0 (l0.length : Int) 0) = some r := h
 clear h
 have H' := Aside0.mk H
 clear H
 go_enter Tryz.func60, Tryz.ntmps60
 go_wp2
 go_loopg [3, 8] k (fun kq v3 v8 w' => ∃ (x3_1 : Int) (x8_1 : Int), v3 = .int .i64 x3_1 ∧ v8 = .int .i64 x8_1 ∧ Aside0 (types_Count.l0 kq x3_1 l0 (l0.length : Int) x8_1 = some r) ∧ Aside0 (kq ≤ k) ∧ Aside0 (Below w.heap.size w w'))
 case atStart => exact ⟨(0), (0), (by first | rfl | (simp; done) | (simp [*]; done)), (by first | rfl | (simp; done) | (simp [*]; done)), H', ⟨Nat.le_refl _⟩, ⟨hz_⟩⟩
 case round =>
  clear H'
  obtain ⟨x3_1, x8_1, rfl, rfl, HA, HK1, HB⟩ := hrel
  cases gk with
  | zero => exact absurd HA.out (by simp [types_Count.l0])
  | succ k1 =>
   have H := HA.out
   clear HA
   simp only [types_Count.l0] at H
   by_cases c2 : x8_1 < (l0.length : Int)
   ·rw [if_pos c2] at H
    have c2b0 : decide (x8_1 < (l0.length : Int)) = true := decide_eq_true c2
    clear c2
    by_cases c3 : 0 ≤ x8_1
    ·rw [if_pos c3] at H
     have c3b0 : decide (0 ≤ x8_1) = true := decide_eq_true c3
     clear c3
     by_cases c4 : x8_1 < (l0.length : Int)
     ·rw [if_pos c4] at H
      have c4b0 : decide (x8_1 < (l0.length : Int)) = true := decide_eq_true c4
      clear c4
      have H' := Aside0.mk H
      clear H
      have p213 : 0 ≤ (x8_1 : Int) := of_decide_eq_true (by first | (with_reducible assumption) | assumption)
      have q213 : x8_1 < (l0.length : Int) := of_decide_eq_true (by first | (with_reducible assumption) | assumption)
      obtain ⟨ad213, A213_0, c213_0, e213, hx213_0, hx213_1, hl213_0, hi213_0⟩ := at_T132 HR0.out x8_1 p213 q213
      cases e213
      replace hx213_0 := (HB.out.cell (World.block_lt_of_cell? w _ hx213_0)).trans hx213_0
      replace hx213_1 := (HB.out.cell (World.block_lt_of_cell? w _ hx213_1)).trans hx213_1
      have HR213_0 := Aside0.mk hi213_0
      have HC213_0 := Aside0.mk hl213_0
      clear hi213_0 hl213_0
      replace p213 := eq_true p213
      replace q213 := eq_true q213
      go_wp2_with (first | ((with_reducible refine gate_dst (N := 5) rfl ?_); refine box_event ?hg (N := 5) ?hd (cs := #[.slice none 0 0, .bool false]) (t := 132) ?hr ?_; (case hd => rfl); (case hg => rfl); (case hr => first | (go_simp; done) | (go_simp; rfl)); intro gb214 hg w5 hbox hb; have n0_ := Aside0.mk (below_step (hz_) hb); have n1_ := Aside0.mk (hbox); have n2_ := Aside0.mk ((by rw [hg]; exact (below_size (hz_)) : w.heap.size ≤ gb214)); have n3_ := Aside0.mk ((by rw [hg]; exact (below_size (hz_)) : w.heap.size ≤ gb214)); clear HB; have HB := n0_; have BK214 := n1_; have GW214 := n2_; have GE214 := n3_; clear n0_ n1_ n2_ n3_; clear hb hbox hg; have hcz6_0 : w5.cell? ⟨gb214, 0, none⟩ = some (.slice none 0 0) := (blk_cell BK214.out 0).trans rfl; have hcz6_1 : w5.cell? ⟨gb214, 1, none⟩ = some (.bool false) := (blk_cell BK214.out 1).trans rfl; have hfz6_0 := blk_frozen BK214.out 0; have hfz6_1 := blk_frozen BK214.out 1))
      go_roundg k1
      case measure => have := HK1.out; omega
      case rel => exact ⟨(wrap64 (x3_1 + (((rd_T132 l0 x8_1).f0).length : Int))), (wrap64 (x8_1 + 1)), (by first | rfl | (simp; done) | (simp [*]; done)), (by first | rfl | (simp; done) | (simp [*]; done)), H', ⟨by have := HK1.out; omega⟩, ⟨by repeat (first | (with_reducible first | exact HB.out | apply below_alloc | apply pw_below_drewN | apply below_drew1 | refine below_set ?_ GE214.out) | exact HB.out)⟩⟩
     ·rw [if_neg c4] at H
      exact absurd H (by simp)
    ·rw [if_neg c3] at H
     exact absurd H (by simp)
   ·rw [if_neg c2] at H
    have c2b0 : decide (x8_1 < (l0.length : Int)) = false := decide_eq_false c2
    clear c2
    obtain rfl := Option.some.inj H
    go_wp2
    go_ret
    exact ⟨by first | rfl | (simp [errW_none, errW_some] <;> rfl) | (simp [*, errW_none, errW_some] <;> rfl), hz_⟩
end Go.Proofs.YtohlmkcgempdlaaGreatDoor.QD
namespace Go.Proofs.YtohlmkcgempdlaaGreatDoor.Cn
set_option linter.unusedSimpArgs false
set_option maxRecDepth 100000
set_option linter.unusedVariables false
open Go.RowKit Go.Maps Go.Proofs.YtohlmkcgempdlaaGreatDoorW.PrintWords Go.Proofs.YtohlmkcgempdlaaGreatDoorW.PrintLast Go.Proofs.YtohlmkcgempdlaaGreatDoorW.PrintMore Go.Proofs.YtohlmkcgempdlaaGreatDoor.QD
/-- Adding never fails where there is room. -/
theorem addTo_room (most : Int) (l : List S132) (gs : List (List S123)) (ids : List Int) (h : manyOf gs + tcount l ≤ most) : ∃ gs' ids', addTo most (gs, ids) l = some (gs', ids') ∧ manyOf gs' ≤ manyOf gs + tcount l ∧ ids'.length = ids.length + tcount l ∧ gs'.length ≤ gs.length + l.length := by
 induction l generalizing gs ids with
 | nil => exact ⟨gs, ids, rfl, by simp [tcount], by simp [tcount], by simp⟩
 | cons r l ih =>
  have ht : tcount (r :: l) = r.f0.length + tcount l := by simp [tcount]
  rw [ht] at h ⊢
  simp only [addTo]
  unfold addStep
  dsimp only
  cases hf : findK gs (ownG ids r) with
  | some p =>
   obtain ⟨gs', ids', h1, h2, h3, h4⟩ := ih gs (ids ++ idsFrom (firstOf gs p) (ownG ids r).length) (by omega)
   refine ⟨gs', ids', h1, by omega, ?_, by simp; omega⟩
   rw [h3, List.length_append, idsFrom_length, ownG_length]
   omega
  | none =>
   dsimp only
   rw [if_neg (by rw [ownG_length]; omega)]
   obtain ⟨gs', ids', h1, h2, h3, h4⟩ := ih (gs ++ [ownG ids r]) (ids ++ idsFrom (manyOf gs) (ownG ids r).length) (by rw [manyOf_snoc, ownG_length]; omega)
   rw [manyOf_snoc, ownG_length] at h2
   rw [List.length_append, idsFrom_length, ownG_length] at h3
   rw [List.length_append, List.length_singleton] at h4
   exact ⟨gs', ids', h1, by omega, by omega, by simp; omega⟩
theorem tcount_drop (l : List S132) (j : Nat) (r : S132) (h : l[j]? = some r) : tcount (l.drop j) = r.f0.length + tcount (l.drop (j + 1)) := by
 obtain ⟨hj, rfl⟩ := List.getElem?_eq_some_iff.1 h
 rw [List.drop_eq_getElem_cons hj]
 unfold tcount
 rw [List.map_cons, List.sum_cons]
theorem step_l0 (m : Nat) (n : Int) (l : List S132) (L j : Int) (h1 : j < L) (h2 : 0 ≤ j) (h3 : j < l.length) : types_Count.l0 (m + 1) n l L j = types_Count.l0 m (wrap64 (n + ((rd_T132 l j).f0.length : Int))) l L (wrap64 (j + 1)) := by
 rw [types_Count.l0, if_pos h1, if_pos h2, if_pos h3]
theorem end_l0 (m : Nat) (n : Int) (l : List S132) (L j : Int) (h1 : ¬ j < L) : types_Count.l0 (m + 1) n l L j = some n := by
 rw [types_Count.l0, if_neg h1]
theorem count_l0 (l : List S132) (L : Nat) (hL : L = l.length) (hl : L ≤ 1099511627776) (m j : Nat) (hm : j + m = L) (n : Int) (h0 : 0 ≤ n) (hn : n + (tcount (l.drop j) : Int) ≤ 2199023255552) : types_Count.l0 (m + 1) n l (L : Int) (j : Int) = some (n + (tcount (l.drop j) : Int)) := by
 induction m generalizing j n with
 | zero =>
  have : j = L := by omega
  subst this
  rw [end_l0 _ _ _ _ _ (Int.lt_irrefl _), hL, List.drop_length]
  simp [tcount]
 | succ m ih =>
  have hlt : j < l.length := by omega
  have hr := rd_RT_at l j hlt
  have hd := tcount_drop l j _ hr
  obtain ⟨q, hq⟩ : ∃ q : Nat, q = (rd_T132 l (j : Int)).f0.length := ⟨_, rfl⟩
  obtain ⟨t1, ht1⟩ : ∃ t1 : Nat, t1 = tcount (l.drop (j + 1)) := ⟨_, rfl⟩
  rw [← hq, ← ht1] at hd
  rw [hd] at hn ⊢
  have e1 : (j : Int) < (L : Int) := by omega
  have e2 : (0 : Int) ≤ (j : Int) := Int.natCast_nonneg j
  have e3 : (j : Int) < (l.length : Int) := by omega
  have e4 : n + (q : Int) + (t1 : Int) = n + ((q + t1 : Nat) : Int) := by omega
  have a1 : j + 1 + m = L := by omega
  have a2 : 0 ≤ n + (q : Int) := by omega
  have a3 : n + (q : Int) + (t1 : Int) ≤ 2199023255552 := by omega
  have w1 : wrap64 (n + (q : Int)) = n + (q : Int) := by unfold wrap64; omega
  have w2 : wrap64 ((j : Int) + 1) = ((j + 1 : Nat) : Int) := by unfold wrap64; omega
  rw [ht1] at a3
  have h3 := ih (j + 1) a1 (n + (q : Int)) a2 a3
  rw [step_l0 (m + 1) n l L j e1 e2 e3, ← hq, w1, w2, h3, ← ht1, e4]
theorem count_eq (l : List S132) (ht : tcount l ≤ 1099511627776) (hl : l.length ≤ 1099511627776) : types_Count.f (l.length + 1) l = some (tcount l : Int) := by
 unfold types_Count.f
 have h := count_l0 l l.length rfl hl l.length 0 (Nat.zero_add _) 0 (Int.le_refl _) (by rw [List.drop_zero]; omega)
 rw [List.drop_zero, Int.zero_add] at h
 exact h
theorem count_calls (A : Option Addr) (c : Nat) (l : List S132) (w : World) (hC : Kd.C k132 w A l.length l) (hc : l.length ≤ c) (ht : tcount l ≤ 1099511627776) (hl : l.length ≤ 1099511627776) :
  Calls Tryz.prog 60 #[.slice A l.length c] w fun e w' => e = .returned (.int .i64 (tcount l : Int)) ∧ Below w.heap.size w w' := types_Count.calls (l.length + 1) A c l _ w hC hc (count_eq l ht hl)
/-- The ids of two lists in a table of their own. -/
noncomputable def oneIds (a b : List S132) : List Int × List Int :=
 match addTo 9223372036854775807 ([], []) a with
 | none => ([], [])
 | some (g1, i1) => match addTo 9223372036854775807 (g1, []) b with
  | none => ([], [])
  | some (g2, i2) => (i1, i2)
open Classical in
/-- What canon.One answers. -/
noncomputable def oneM (a b : List S132) (x y : Int) : Bool × Int :=
 if Clo a ∧ Clo b then
  if 0 ≤ x ∧ x < tcount a ∧ 0 ≤ y ∧ y < tcount b then (rd (oneIds a b).1 x == rd (oneIds a b).2 y, 0) else (false, 1)
 else (false, 50)
end Go.Proofs.YtohlmkcgempdlaaGreatDoor.Cn
namespace Go.Proofs.YtohlmkcgempdlaaGreatDoor.Cn
set_option linter.unusedSimpArgs false
set_option maxRecDepth 100000
open Go.RowKit Go.Maps Go.Proofs.YtohlmkcgempdlaaGreatDoorW.PrintWords Go.Proofs.YtohlmkcgempdlaaGreatDoorW.PrintLast Go.Proofs.YtohlmkcgempdlaaGreatDoor.QD
/-- f's texts can be told from what follows them. -/
def Dec {α : Type} (f : α → List UInt8) : Prop := ∀ a b s t, f a ++ s = f b ++ t → a = b ∧ s = t
theorem split_at (x : UInt8) (l1 l2 s t : List UInt8) (h1 : x ∉ l1) (h2 : x ∉ l2) (h : l1 ++ x :: s = l2 ++ x :: t) : l1 = l2 ∧ s = t := by
 induction l1 generalizing l2 with
 | nil =>
  cases l2 with
  | nil => simp at h; exact ⟨rfl, h⟩
  | cons y l2 => simp at h; exact absurd h.1 (fun e => h2 (by simp [e]))
 | cons y l1 ih =>
  cases l2 with
  | nil => simp at h; exact absurd h.1 (fun e => h1 (by simp [e]))
  | cons z l2 =>
   simp at h
   obtain ⟨rfl, h⟩ := h
   obtain ⟨rfl, rfl⟩ := ih l2 (fun hm => h1 (by simp [hm])) (fun hm => h2 (by simp [hm])) h
   exact ⟨rfl, rfl⟩
def valD (l : List UInt8) : Nat := l.foldl (fun n c => 10 * n + (c.toNat - 48)) 0
theorem digit_toNat (d : Nat) (h : d < 10) : (UInt8.ofNat (48 + d)).toNat = 48 + d := by
 rw [UInt8.toNat_ofNat']
 omega
theorem valD_dec (u : Nat) : valD (Lib.decDigits u) = u := by
 induction u using Nat.strongRecOn with
 | ind u ih =>
  rw [Lib.decDigits]
  split
  ·rename_i h
   simp only [valD, List.foldl_cons, List.foldl_nil]
   rw [digit_toNat u h]
   omega
  ·rename_i h
   have h1 := ih (u / 10) (by omega)
   unfold valD at h1 ⊢
   rw [List.foldl_append, h1]
   simp only [List.foldl_cons, List.foldl_nil]
   rw [digit_toNat (u % 10) (by omega)]
   omega
theorem dec_digit (u : Nat) : ∀ c ∈ Lib.decDigits u, 48 ≤ c.toNat ∧ c.toNat ≤ 57 := by
 induction u using Nat.strongRecOn with
 | ind u ih =>
  rw [Lib.decDigits]
  split
  ·rename_i h
   intro c hc
   rw [List.mem_singleton.1 hc, digit_toNat u h]
   omega
  ·rename_i h
   intro c hc
   rcases List.mem_append.1 hc with hc | hc
   ·exact ih (u / 10) (by omega) c hc
   ·rw [List.mem_singleton.1 hc, digit_toNat (u % 10) (by omega)]
    omega
theorem dec_ne (u : Nat) : ∃ c l, Lib.decDigits u = c :: l ∧ 48 ≤ c.toNat := by
 have h := Lib.decDigits_length u
 have h1 := Lib.nDigits_pos u
 cases e : Lib.decDigits u with
 | nil => rw [e] at h; simp at h; omega
 | cons c l => exact ⟨c, l, rfl, (dec_digit u c (by rw [e]; simp)).1⟩
theorem itoa_no (i : Int) (x : UInt8) (hx : x.toNat < 45) : x ∉ Lib.itoa i := by
 intro h
 unfold Lib.itoa at h
 split at h
 ·rcases List.mem_cons.1 h with h | h
  ·subst h; revert hx; decide
  ·have := dec_digit _ _ h; omega
 ·have := dec_digit _ _ h; omega
theorem itoa_inj (i j : Int) (h : Lib.itoa i = Lib.itoa j) : i = j := by
 unfold Lib.itoa at h
 split at h <;> split at h
 ·injection h with _ h
  have := congrArg valD h
  rw [valD_dec, valD_dec] at this
  omega
 ·obtain ⟨c, l, e, hc⟩ := dec_ne j.toNat
  rw [e] at h
  injection h with h _
  subst h
  exact absurd hc (by decide)
 ·obtain ⟨c, l, e, hc⟩ := dec_ne i.toNat
  rw [e] at h
  injection h with h _
  subst h
  exact absurd hc (by decide)
 ·have := congrArg valD h
  rw [valD_dec, valD_dec] at this
  omega
theorem itoa_head (i : Int) : ∃ c l, Lib.itoa i = c :: l ∧ c ≠ 43 := by
 unfold Lib.itoa
 split
 ·exact ⟨45, _, rfl, by decide⟩
 ·obtain ⟨c, l, e, hc⟩ := dec_ne i.toNat
  exact ⟨c, l, e, by rintro rfl; revert hc; decide⟩
theorem dec_num : Dec numT := by
 intro a b s t h
 simp only [numT, List.append_assoc, List.cons_append, List.nil_append] at h
 obtain ⟨h1, h2⟩ := split_at 32 _ _ _ _ (itoa_no a 32 (by decide)) (itoa_no b 32 (by decide)) h
 exact ⟨itoa_inj a b h1, h2⟩
theorem dec_flagnum (a b : Bool) (i j : Int) (s t : List UInt8) (h : flagT a ++ (numT i ++ s) = flagT b ++ (numT j ++ t)) : a = b ∧ i = j ∧ s = t := by
 obtain ⟨c, l, e, hc⟩ := itoa_head i
 obtain ⟨c', l', e', hc'⟩ := itoa_head j
 cases a <;> cases b
 ·obtain ⟨h1, h2⟩ := dec_num _ _ _ _ h
  exact ⟨rfl, h1, h2⟩
 ·simp only [flagT, numT, e, List.cons_append, List.nil_append] at h
  injection h with h _
  exact absurd h hc
 ·simp only [flagT, numT, e', List.cons_append, List.nil_append] at h
  injection h with h _
  exact absurd h.symm hc'
 ·simp only [flagT, List.cons_append, List.nil_append] at h
  injection h with _ h
  obtain ⟨h1, h2⟩ := dec_num _ _ _ _ h
  exact ⟨rfl, h1, h2⟩
theorem dec_val : Dec valT := by
 intro a b s t h
 simp only [valT, List.append_assoc] at h
 obtain ⟨h1, h⟩ := dec_num _ _ _ _ h
 obtain ⟨h2, h3, h4⟩ := dec_flagnum _ _ _ _ _ _ h
 refine ⟨?_, h4⟩
 obtain ⟨a0, a1, a2⟩ := a
 obtain ⟨b0, b1, b2⟩ := b
 simp only at h1 h2 h3
 subst h1 h2 h3
 rfl
theorem dec_field : Dec fieldT := by
 intro a b s t h
 simp only [fieldT, valT, List.append_assoc] at h
 obtain ⟨h1, h2, h⟩ := dec_flagnum _ _ _ _ _ _ h
 obtain ⟨h3, h4, h5⟩ := dec_flagnum _ _ _ _ _ _ h
 refine ⟨?_, h5⟩
 obtain ⟨⟨a0, a1, a2⟩, a3⟩ := a
 obtain ⟨⟨b0, b1, b2⟩, b3⟩ := b
 simp only at h1 h2 h3 h4
 subst h1 h2 h3 h4
 rfl
theorem dec_list {α : Type} (g : α → List UInt8) (hg : Dec g) (l m : List α) (hl : l.length = m.length) (s t : List UInt8) (h : l.flatMap g ++ s = m.flatMap g ++ t) : l = m ∧ s = t := by
 induction l generalizing m with
 | nil =>
  cases m with
  | nil => exact ⟨rfl, by simpa using h⟩
  | cons y m => simp at hl
 | cons x l ih =>
  cases m with
  | nil => simp at hl
  | cons y m =>
   simp only [List.flatMap_cons, List.append_assoc] at h
   obtain ⟨e1, h1⟩ := hg _ _ _ _ h
   obtain ⟨e2, h2⟩ := ih m (by simpa using hl) h1
   exact ⟨by rw [e1, e2], h2⟩
theorem dec_nlist {α : Type} (g : α → List UInt8) (hg : Dec g) (l m : List α) (s t : List UInt8) (h : numT l.length ++ (l.flatMap g ++ s) = numT m.length ++ (m.flatMap g ++ t)) : l = m ∧ s = t := by
 obtain ⟨h1, h⟩ := dec_num _ _ _ _ h
 exact dec_list g hg l m (by omega) s t h
theorem dec_sub : Dec subT := by
 intro a b s t h
 simp only [subT, List.append_assoc] at h
 obtain ⟨h0, hn, h⟩ := dec_flagnum _ _ _ _ _ _ h
 obtain ⟨h1, h⟩ := dec_list numT dec_num _ _ (by omega) _ _ h
 obtain ⟨h2, h⟩ := dec_num _ _ _ _ h
 obtain ⟨h3, h⟩ := dec_nlist valT dec_val _ _ _ _ h
 obtain ⟨h4, h⟩ := dec_nlist valT dec_val _ _ _ _ h
 obtain ⟨h5, h⟩ := dec_nlist fieldT dec_field _ _ _ _ h
 refine ⟨?_, h⟩
 obtain ⟨a0, a1, ⟨a2, a3, a4, a5⟩⟩ := a
 obtain ⟨b0, b1, ⟨b2, b3, b4, b5⟩⟩ := b
 simp only at h0 h1 h2 h3 h4 h5
 subst h0 h1 h2 h3 h4 h5
 rfl
theorem subT_ne (s : S123) : subT s ≠ [] := by
 obtain ⟨c, l, e, _⟩ := itoa_head s.f1.length
 intro h
 have := congrArg List.length h
 simp [subT, numT, e] at this
theorem keyT_inj (l m : List S123) (h : keyT l = keyT m) : l = m := by
 induction l generalizing m with
 | nil =>
  cases m with
  | nil => rfl
  | cons y m =>
   simp only [keyT, List.flatMap_nil, List.flatMap_cons] at h
   have := List.append_eq_nil_iff.1 h.symm
   exact absurd this.1 (subT_ne y)
 | cons x l ih =>
  cases m with
  | nil =>
   simp only [keyT, List.flatMap_nil, List.flatMap_cons] at h
   have := List.append_eq_nil_iff.1 h
   exact absurd this.1 (subT_ne x)
  | cons y m =>
   simp only [keyT, List.flatMap_cons] at h
   obtain ⟨e1, h1⟩ := dec_sub _ _ _ _ h
   rw [e1, ih m h1]
end Go.Proofs.YtohlmkcgempdlaaGreatDoor.Cn
namespace Go.Proofs.YtohlmkcgempdlaaGreatDoor.Cn
set_option linter.unusedSimpArgs false
set_option maxRecDepth 100000
set_option linter.unusedVariables false
open Go.RowKit Go.Maps Go.Proofs.YtohlmkcgempdlaaGreatDoorW.PrintWords Go.Proofs.YtohlmkcgempdlaaGreatDoorW.PrintLast Go.Proofs.YtohlmkcgempdlaaGreatDoorW.PrintMore Go.Proofs.YtohlmkcgempdlaaGreatDoor.QD
/-- No two groups are one. -/
def Dist (gs : List (List S123)) : Prop := ∀ (i j : Nat) (x : List S123), gs[i]? = some x → gs[j]? = some x → i = j
theorem Dist.nil : Dist [] := fun i j x h => by simp at h
theorem Dist.snoc {gs : List (List S123)} {o : List S123} (h : Dist gs) (hn : ∀ x ∈ gs, x ≠ o) : Dist (gs ++ [o]) := by
 intro i j x hi hj
 have key : ∀ (i : Nat), (gs ++ [o])[i]? = some x → (gs[i]? = some x) ∨ (i = gs.length ∧ x = o) := by
  intro i hi
  rcases Nat.lt_or_ge i gs.length with h1 | h1
  ·rw [List.getElem?_append_left h1] at hi; exact .inl hi
  ·rw [List.getElem?_append_right h1] at hi
   have h2 := (List.getElem?_eq_some_iff.1 hi).1
   simp at h2
   have h3 : i = gs.length := by omega
   subst h3
   simp at hi
   exact .inr ⟨rfl, hi.symm⟩
 rcases key i hi with h1 | ⟨h1, e1⟩ <;> rcases key j hj with h2 | ⟨h2, e2⟩
 ·exact h i j x h1 h2
 ·exact absurd e2 (hn x (List.mem_of_getElem? h1))
 ·exact absurd e1 (hn x (List.mem_of_getElem? h2))
 ·omega
theorem firstOf_append (gs t : List (List S123)) (i : Nat) (h : i ≤ gs.length) : firstOf (gs ++ t) i = firstOf gs i := by
 unfold firstOf
 rw [List.take_append_of_le_length h]
theorem firstOf_length (gs : List (List S123)) : firstOf gs gs.length = manyOf gs := by unfold firstOf; rw [List.take_length]
theorem idsFrom_get (n : Int) (k o : Nat) (h : o < k) : (idsFrom n k)[o]? = some (n + o) := by
 unfold idsFrom
 rw [List.getElem?_map, List.getElem?_range h]
 rfl
/-- What adding a group comes to. -/
theorem addStep_char {most : Int} {gs0 gs' : List (List S123)} {ids0 ids' : List Int} {r : S132} (h : addStep most (gs0, ids0) r = some (gs', ids')) (hd : Dist gs0) :
  Dist gs' ∧ (∃ t, gs' = gs0 ++ t) ∧ ∃ idx, gs'[idx]? = some (ownG ids0 r) ∧ ids' = ids0 ++ idsFrom (firstOf gs' idx) r.f0.length := by
 unfold addStep at h
 dsimp only at h
 cases hf : findK gs0 (ownG ids0 r) with
 | some i =>
  rw [hf] at h
  simp only [Option.some.injEq, Prod.mk.injEq] at h
  obtain ⟨rfl, rfl⟩ := h
  obtain ⟨x, hx, hk⟩ := findK_some hf
  have := keyT_inj _ _ hk
  subst this
  exact ⟨hd, ⟨[], by simp⟩, i, hx, by rw [ownG_length]⟩
 | none =>
  rw [hf] at h
  dsimp only at h
  split at h
  ·cases h
  ·simp only [Option.some.injEq, Prod.mk.injEq] at h
   obtain ⟨rfl, rfl⟩ := h
   have hn := findK_none hf
   refine ⟨hd.snoc (fun x hx e => hn x hx (by rw [e])), ⟨_, rfl⟩, gs0.length, by simp, ?_⟩
   rw [firstOf_append _ _ _ (Nat.le_refl _), firstOf_length, ownG_length]
/-- What adding comes to. -/
theorem addTo_char (most : Int) (l : List S132) : ∀ (gs0 gs' : List (List S123)) (ids0 ids' : List Int), addTo most (gs0, ids0) l = some (gs', ids') → Dist gs0 →
  Dist gs' ∧ (∃ t, gs' = gs0 ++ t) ∧ (∃ t, ids' = ids0 ++ t ∧ t.length = tcount l) ∧
  ∀ (j : Nat) (r : S132), l[j]? = some r → ∃ idx, gs'[idx]? = some (ownG (ids'.take (ids0.length + tcount (l.take j))) r) ∧ ∀ o, o < r.f0.length → ids'[ids0.length + tcount (l.take j) + o]? = some (firstOf gs' idx + o) := by
 induction l with
 | nil =>
  intro gs0 gs' ids0 ids' h hd
  simp only [addTo, Option.some.injEq, Prod.mk.injEq] at h
  obtain ⟨rfl, rfl⟩ := h
  exact ⟨hd, ⟨[], by simp⟩, ⟨[], by simp, by simp [tcount]⟩, fun j r hj => by simp at hj⟩
 | cons r l ih =>
  intro gs0 gs' ids0 ids' h hd
  simp only [addTo] at h
  cases hs : addStep most (gs0, ids0) r with
  | none => rw [hs] at h; cases h
  | some st =>
   obtain ⟨gs1, ids1⟩ := st
   rw [hs] at h
   simp only [Option.bind_some] at h
   obtain ⟨hd1, ⟨t1, ht1⟩, idx, hx, hi⟩ := addStep_char hs hd
   obtain ⟨hd2, ⟨t2, ht2⟩, ⟨u, hu, hul⟩, hall⟩ := ih gs1 gs' ids1 ids' h hd1
   have hl1 : ids1.length = ids0.length + r.f0.length := by rw [hi, List.length_append, idsFrom_length]
   refine ⟨hd2, ⟨t1 ++ t2, by rw [ht2, ht1, List.append_assoc]⟩, ⟨idsFrom (firstOf gs1 idx) r.f0.length ++ u, by rw [hu, hi, List.append_assoc], ?_⟩, ?_⟩
   ·rw [List.length_append, idsFrom_length, hul]; simp [tcount]
   ·intro j q hj
    cases j with
    | zero =>
     simp at hj
     subst hj
     have hidx : idx < gs1.length := (List.getElem?_eq_some_iff.1 hx).1
     refine ⟨idx, ?_, fun o ho => ?_⟩
     ·have e : ids'.take (ids0.length + tcount ((r :: l).take 0)) = ids0 := by
       rw [hu, hi, List.append_assoc]
       simp [tcount]
      rw [e, ht2, List.getElem?_append_left hidx]
      exact hx
     ·have e : ids0.length + tcount ((r :: l).take 0) + o = ids0.length + o := by simp [tcount]
      rw [e, hu, hi, List.append_assoc, List.getElem?_append_right (by omega), List.getElem?_append_left (by rw [idsFrom_length]; omega)]
      have e2 : ids0.length + o - ids0.length = o := by omega
      rw [e2, idsFrom_get _ _ _ ho, ht2, firstOf_append _ _ _ (Nat.le_of_lt hidx)]
    | succ j =>
     rw [List.getElem?_cons_succ] at hj
     obtain ⟨idx', h1, h2⟩ := hall j q hj
     have e : ids1.length + tcount (l.take j) = ids0.length + tcount ((r :: l).take (j + 1)) := by
      rw [hl1, List.take_succ_cons]
      simp [tcount]
      omega
     rw [e] at h1 h2
     exact ⟨idx', h1, h2⟩
/-- Adding a list again: the same ids, and nothing new. -/
theorem addTo_again (most m : Int) (l : List S132) (gs0 gs' : List (List S123)) (ids : List Int) (h : addTo most (gs0, []) l = some (gs', ids)) (hd : Dist gs0) : addTo m (gs', []) l = some (gs', ids) := by
 obtain ⟨hd', _, ⟨t, ht, htl⟩, hall⟩ := addTo_char most l gs0 gs' [] ids h hd
 rw [List.nil_append] at ht
 subst ht
 have key : ∀ k, k ≤ l.length → addTo m (gs', []) (l.take k) = some (gs', ids.take (tcount (l.take k))) := by
  intro k
  induction k with
  | zero => intro _; simp [addTo, tcount]
  | succ k ih =>
   intro hk
   have hr : l[k]? = some l[k] := List.getElem?_eq_getElem (by omega)
   rw [addTo_take m _ l k _ hr, ih (by omega)]
   simp only [Option.bind_some]
   obtain ⟨idx, h1, h2⟩ := hall k _ hr
   simp only [List.length_nil, Nat.zero_add] at h1 h2
   unfold addStep
   dsimp only
   cases hf : findK gs' (ownG (ids.take (tcount (l.take k))) l[k]) with
   | none => exact absurd rfl (findK_none hf _ (List.mem_of_getElem? h1))
   | some i =>
    obtain ⟨x, hx, hkx⟩ := findK_some hf
    have := keyT_inj _ _ hkx
    subst this
    have hi := hd' i idx _ hx h1
    subst hi
    dsimp only
    congr 2
    have htk := tcount_take l k _ hr
    have hle := tcount_take_le l k _ hr
    rw [htk, ownG_length]
    apply List.ext_getElem?
    intro p
    rcases Nat.lt_or_ge p (tcount (l.take k)) with hp | hp
    ·rw [List.getElem?_append_left (by rw [List.length_take]; omega), List.getElem?_take_of_lt hp, List.getElem?_take_of_lt (by omega)]
    ·rw [List.getElem?_append_right (by rw [List.length_take]; omega)]
     have e : (ids.take (tcount (l.take k))).length = tcount (l.take k) := by rw [List.length_take]; omega
     rw [e]
     rcases Nat.lt_or_ge (p - tcount (l.take k)) l[k].f0.length with ho | ho
     ·rw [idsFrom_get _ _ _ ho, List.getElem?_take_of_lt (by omega)]
      have := h2 _ ho
      have e2 : tcount (l.take k) + (p - tcount (l.take k)) = p := by omega
      rw [e2] at this
      exact this.symm
     ·rw [List.getElem?_eq_none (by rw [idsFrom_length]; omega), List.getElem?_eq_none (by rw [List.length_take]; omega)]
 have := key l.length (Nat.le_refl _)
 rw [List.take_length] at this
 rw [this, ← htl, List.take_length]
/-- The groups' ids lie apart. -/
theorem firstOf_mono (gs : List (List S123)) (i j : Nat) (x : List S123) (h : i < j) (hx : gs[i]? = some x) : firstOf gs i + x.length ≤ firstOf gs j := by
 have hx' : (gs.take j)[i]? = some x := by rw [List.getElem?_take_of_lt h]; exact hx
 have h1 := (firstOf_le (gs.take j) i x hx').2
 have e : firstOf (gs.take j) i = firstOf gs i := by
  unfold firstOf
  rw [List.take_take, Nat.min_eq_left (Nat.le_of_lt h)]
 rw [e] at h1
 exact h1
theorem id_eq_iff {gs : List (List S123)} {i j : Nat} {x y : List S123} {o p : Nat} (hx : gs[i]? = some x) (hy : gs[j]? = some y) (ho : o < x.length) (hp : p < y.length) : firstOf gs i + (o : Int) = firstOf gs j + (p : Int) ↔ i = j ∧ o = p := by
 constructor
 ·intro h
  rcases Nat.lt_trichotomy i j with hl | rfl | hl
  ·have := firstOf_mono gs i j x hl hx; omega
  ·exact ⟨rfl, by omega⟩
  ·have := firstOf_mono gs j i y hl hy; omega
 ·rintro ⟨rfl, rfl⟩; rfl
/-- Where a type stands in a list of groups. -/
theorem place_of (l : List S132) (k p : Nat) (hk : k ≤ l.length) (hp : p < tcount (l.take k)) : ∃ (j : Nat) (r : S132) (o : Nat), j < k ∧ l[j]? = some r ∧ p = tcount (l.take j) + o ∧ o < r.f0.length := by
 induction k with
 | zero => simp [tcount] at hp
 | succ k ih =>
  have hr : l[k]? = some l[k] := List.getElem?_eq_getElem (by omega)
  rw [tcount_take l k _ hr] at hp
  rcases Nat.lt_or_ge p (tcount (l.take k)) with h | h
  ·obtain ⟨j, r, o, h1, h2, h3, h4⟩ := ih (by omega) h
   exact ⟨j, r, o, by omega, h2, h3, h4⟩
  ·exact ⟨k, l[k], p - tcount (l.take k), by omega, hr, by omega, by omega⟩
theorem map_iff {α β γ : Type} {f g : α → β} {f' g' : α → γ} (l m : List α) (h : ∀ a ∈ l, ∀ b ∈ m, (f a = g b ↔ f' a = g' b)) : l.map f = m.map g ↔ l.map f' = m.map g' := by
 induction l generalizing m with
 | nil => cases m <;> simp
 | cons a l ih =>
  cases m with
  | nil => simp
  | cons b m =>
   simp only [List.map_cons, List.cons.injEq]
   rw [h a (by simp) b (by simp), ih m (fun x hx y hy => h x (by simp [hx]) y (by simp [hy]))]
/-- All numbers of a type, as Q says. -/
structure TQ (Q : Int → Prop) (s : S123) : Prop where
 q1 : ∀ h ∈ s.f1, Q h
 q2 : ∀ v ∈ s.f2.f1, v.f0 = 5 → Q v.f2
 q3 : ∀ v ∈ s.f2.f2, v.f0 = 5 → Q v.f2
 q4 : ∀ v ∈ s.f2.f3, v.f0.f0 = 5 → Q v.f0.f2
theorem mvp_iff {f g f' g' : Int → Int} {v u : S39} (h : v.f0 = 5 → u.f0 = 5 → (f v.f2 = g u.f2 ↔ f' v.f2 = g' u.f2)) : mvp f v = mvp g u ↔ mvp f' v = mvp g' u := by
 unfold mvp
 by_cases hv : v.f0 = 5 <;> by_cases hu : u.f0 = 5
 ·simp only [hv, hu, if_true, S39.mk.injEq, h hv hu, true_and]
 ·simp only [hv, hu, if_true, if_false, S39.mk.injEq, Ne.symm hu, false_and]
 ·simp only [hv, hu, if_true, if_false, S39.mk.injEq, false_and]
 ·simp only [hv, hu, if_false, S39.mk.injEq]
theorem mfp_iff {f g f' g' : Int → Int} {v u : S172} (h : v.f0.f0 = 5 → u.f0.f0 = 5 → (f v.f0.f2 = g u.f0.f2 ↔ f' v.f0.f2 = g' u.f0.f2)) : mfp f v = mfp g u ↔ mfp f' v = mfp g' u := by
 unfold mfp
 simp only [S172.mk.injEq]
 rw [mvp_iff h]
theorem mroll_iff {a b a' b' : List Int} {s t : S123} {P Q : Int → Prop} (hs : TQ P s) (ht : TQ Q t) (h : ∀ x y, P x → Q y → (rollF a x = rollF b y ↔ rollF a' x = rollF b' y)) : mroll a s = mroll b t ↔ mroll a' s = mroll b' t := by
 simp only [mroll_eq, S123.mk.injEq, S121.mk.injEq]
 rw [map_iff (f := rollF a) (g := rollF b) (f' := rollF a') (g' := rollF b') s.f1 t.f1 (fun x hx y hy => h x y (hs.q1 x hx) (ht.q1 y hy)),
  map_iff (f := mvp (rollF a)) (g := mvp (rollF b)) (f' := mvp (rollF a')) (g' := mvp (rollF b')) s.f2.f1 t.f2.f1 (fun x hx y hy => mvp_iff fun e e' => h _ _ (hs.q2 x hx e) (ht.q2 y hy e')),
  map_iff (f := mvp (rollF a)) (g := mvp (rollF b)) (f' := mvp (rollF a')) (g' := mvp (rollF b')) s.f2.f2 t.f2.f2 (fun x hx y hy => mvp_iff fun e e' => h _ _ (hs.q3 x hx e) (ht.q3 y hy e')),
  map_iff (f := mfp (rollF a)) (g := mfp (rollF b)) (f' := mfp (rollF a')) (g' := mfp (rollF b')) s.f2.f3 t.f2.f3 (fun x hx y hy => mfp_iff fun e e' => h _ _ (hs.q4 x hx e) (ht.q4 y hy e'))]
theorem okF_true (en : Int) (b : Bool) (h : Int) : okF en b h = true ↔ b = true ∧ (-12 ≤ h ∧ h < en) := by
 simp [okF]
 constructor
 ·rintro ⟨⟨h1, h2⟩, h3⟩; exact ⟨h1, h3, h2⟩
 ·rintro ⟨h1, h3, h2⟩; exact ⟨⟨h1, h2⟩, h3⟩
theorem okS_ints (en : Int) (b : Bool) (l : List Int) : (foldm (okS en) b l).1 = true ↔ b = true ∧ ∀ h ∈ l, -12 ≤ h ∧ h < en := by
 induction l generalizing b with
 | nil => simp [foldm]
 | cons x l ih =>
  simp only [foldm, ih, okS, okF_true, List.mem_cons, forall_eq_or_imp, and_assoc]
theorem okS_vals (en : Int) (b : Bool) (l : List S39) : (foldm (tval (okS en)) b l).1 = true ↔ b = true ∧ ∀ v ∈ l, v.f0 = 5 → -12 ≤ v.f2 ∧ v.f2 < en := by
 induction l generalizing b with
 | nil => simp [foldm]
 | cons x l ih =>
  have e : (tval (okS en) b x).1 = true ↔ b = true ∧ (x.f0 = 5 → -12 ≤ x.f2 ∧ x.f2 < en) := by
   unfold tval
   by_cases h : x.f0 = 5
   ·simp only [h, if_true, okS, okF_true, true_implies]
   ·simp [h]
  simp only [foldm, ih, e, List.mem_cons, forall_eq_or_imp, and_assoc]
theorem okS_fields (en : Int) (b : Bool) (l : List S172) : (foldm (tfield (okS en)) b l).1 = true ↔ b = true ∧ ∀ v ∈ l, v.f0.f0 = 5 → -12 ≤ v.f0.f2 ∧ v.f0.f2 < en := by
 induction l generalizing b with
 | nil => simp [foldm]
 | cons x l ih =>
  have e : (tfield (okS en) b x).1 = true ↔ b = true ∧ (x.f0.f0 = 5 → -12 ≤ x.f0.f2 ∧ x.f0.f2 < en) := by
   unfold tfield tval
   by_cases h : x.f0.f0 = 5
   ·simp only [h, if_true, okS, okF_true, true_implies]
   ·simp [h]
  simp only [foldm, ih, e, List.mem_cons, forall_eq_or_imp, and_assoc]
theorem typeOk_iff (en : Int) (s : S123) : typeOk en s = true ↔ (∀ h ∈ s.f1, 0 ≤ h) ∧ TQ (fun h => -12 ≤ h ∧ h < en) s := by
 unfold typeOk tsub
 dsimp only
 rw [okS_fields, okS_vals, okS_vals, okS_ints]
 have e : supOk s.f1 = true ↔ ∀ h ∈ s.f1, 0 ≤ h := by simp [supOk]
 rw [e]
 constructor
 ·rintro ⟨⟨⟨⟨h0, h1⟩, h2⟩, h3⟩, h4⟩; exact ⟨h0, h1, h2, h3, h4⟩
 ·rintro ⟨h0, h1, h2, h3, h4⟩; exact ⟨⟨⟨⟨h0, h1⟩, h2⟩, h3⟩, h4⟩
theorem Clo.tq {l : List S132} (h : Clo l) {j : Nat} {r : S132} (hr : l[j]? = some r) {s : S123} (hs : s ∈ r.f0) : TQ (fun x => -12 ≤ x ∧ x < (tcount (l.take (j + 1)) : Nat)) s := ((typeOk_iff _ _).1 (h j r hr s hs)).2
/-- Two runs of adding one list. -/
theorem rollF_iff {a b a' b' : List Int} {x y : Int} (hx : -12 ≤ x) (hy : -12 ≤ y) (ha : ∀ i ∈ a, 0 ≤ i) (hb : ∀ i ∈ b, 0 ≤ i) (ha' : ∀ i ∈ a', 0 ≤ i) (hb' : ∀ i ∈ b', 0 ≤ i) (hla : a.length = a'.length) (hlb : b.length = b'.length)
  (h : 0 ≤ x → x < a.length → 0 ≤ y → y < b.length → (rd a x = rd b y ↔ rd a' x = rd b' y)) : rollF a x = rollF b y ↔ rollF a' x = rollF b' y := by
 have pos : ∀ (c : List Int) (z : Int), (∀ i ∈ c, 0 ≤ i) → 0 ≤ z → z < c.length → 0 ≤ rd c z := by
  intro c z hc h0 h1
  have e : rd c z = c[z.toNat]'(by omega) := by simp [rd, List.getD_eq_getElem?_getD, List.getElem?_eq_getElem (show z.toNat < c.length by omega)]
  rw [e]
  exact hc _ (List.getElem_mem _)
 unfold rollF
 rw [← hla, ← hlb]
 by_cases x0 : x < 0 <;> by_cases y0 : y < 0
 ·simp only [x0, y0, if_true]
 ·simp only [x0, y0, if_true, if_false]
  by_cases y1 : y < b.length
  ·simp only [y1, if_true]
   have := pos b y hb (by omega) y1
   have := pos b' y hb' (by omega) (by omega)
   omega
  ·simp only [y1, if_false]
 ·simp only [x0, y0, if_true, if_false]
  by_cases x1 : x < a.length
  ·simp only [x1, if_true]
   have := pos a x ha (by omega) x1
   have := pos a' x ha' (by omega) (by omega)
   omega
  ·simp only [x1, if_false]
 ·simp only [x0, y0, if_false]
  by_cases x1 : x < a.length <;> by_cases y1 : y < b.length
  ·simp only [x1, y1, if_true]
   exact h (by omega) x1 (by omega) y1
  ·simp only [x1, y1, if_true, if_false]
   have := pos a x ha (by omega) x1
   have := pos a' x ha' (by omega) (by omega)
   omega
  ·simp only [x1, y1, if_true, if_false]
   have := pos b y hb (by omega) y1
   have := pos b' y hb' (by omega) (by omega)
   omega
  ·simp only [x1, y1, if_false]
theorem ids_nonneg {most : Int} {l : List S132} {gs0 gs : List (List S123)} {ids : List Int} (h : addTo most (gs0, []) l = some (gs, ids)) (hd : Dist gs0) : ∀ i ∈ ids, 0 ≤ i := by
 obtain ⟨_, _, ⟨t, ht, htl⟩, hall⟩ := addTo_char most l gs0 gs [] ids h hd
 rw [List.nil_append] at ht
 subst ht
 intro i hi
 obtain ⟨p, hp, rfl⟩ := List.getElem_of_mem hi
 obtain ⟨j, r, o, _, hr, rfl, ho⟩ := place_of l l.length p (Nat.le_refl _) (by rw [List.take_length]; omega)
 obtain ⟨idx, h1, h2⟩ := hall j r hr
 have h3 := h2 o ho
 simp only [List.length_nil, Nat.zero_add] at h3
 rw [List.getElem?_eq_getElem hp] at h3
 injection h3 with h3
 rw [h3]
 have := (firstOf_le gs idx _ h1).1
 omega
theorem rd_take (l : List Int) (n : Nat) (x : Int) (h0 : 0 ≤ x) (h : x < n) : rd (l.take n) x = rd l x := by
 unfold rd
 rw [List.getD_eq_getElem?_getD, List.getD_eq_getElem?_getD, List.getElem?_take_of_lt (by omega)]
theorem rd_eq (l : List Int) (x : Int) (v : Int) (h : l[x.toNat]? = some v) : rd l x = v := by
 unfold rd
 rw [List.getD_eq_getElem?_getD, h]
 rfl
theorem tcount_mono (l : List S132) (i j : Nat) (h : i ≤ j) : tcount (l.take i) ≤ tcount (l.take j) := by
 have e : l.take j = l.take i ++ (l.take j).drop i := by
  have := (List.take_append_drop i (l.take j)).symm
  rw [List.take_take, Nat.min_eq_left h] at this
  exact this
 rw [e]
 simp [tcount]
/-- Whether two types have one id does not hang on what was added ahead. -/
theorem ids_alike {l : List S132} (hc : Clo l) {mA mB : Int} {gA0 gA gB0 gB : List (List S123)} {iA iB : List Int} (hA : addTo mA (gA0, []) l = some (gA, iA)) (hB : addTo mB (gB0, []) l = some (gB, iB)) (dA : Dist gA0) (dB : Dist gB0) (x y : Int) (hx : 0 ≤ x ∧ x < tcount l) (hy : 0 ≤ y ∧ y < tcount l) :
  rd iA x = rd iA y ↔ rd iB x = rd iB y := by
 have nA := ids_nonneg hA dA
 have nB := ids_nonneg hB dB
 obtain ⟨dA', _, ⟨t, ht, lA⟩, allA⟩ := addTo_char mA l gA0 gA [] iA hA dA
 rw [List.nil_append] at ht
 subst ht
 obtain ⟨dB', _, ⟨t, ht, lB⟩, allB⟩ := addTo_char mB l gB0 gB [] iB hB dB
 rw [List.nil_append] at ht
 subst ht
 have key : ∀ k, k ≤ l.length → ∀ x y : Int, 0 ≤ x → x < (tcount (l.take k) : Nat) → 0 ≤ y → y < (tcount (l.take k) : Nat) → (rd iA x = rd iA y ↔ rd iB x = rd iB y) := by
  intro k
  induction k with
  | zero => intro _ x y _ h; simp [tcount] at h; omega
  | succ k ih =>
   intro hk x y hx0 hx1 hy0 hy1
   obtain ⟨j, r, o, hj, hr, ex, ho⟩ := place_of l (k + 1) x.toNat hk (by omega)
   obtain ⟨j', r', o', hj', hr', ey, ho'⟩ := place_of l (k + 1) y.toNat hk (by omega)
   obtain ⟨a, a1, a2⟩ := allA j r hr
   obtain ⟨a', a1', a2'⟩ := allA j' r' hr'
   obtain ⟨b, b1, b2⟩ := allB j r hr
   obtain ⟨b', b1', b2'⟩ := allB j' r' hr'
   simp only [List.length_nil, Nat.zero_add] at a1 a2 a1' a2' b1 b2 b1' b2'
   rw [rd_eq iA x _ (by rw [ex]; exact a2 o ho), rd_eq iA y _ (by rw [ey]; exact a2' o' ho'), rd_eq iB x _ (by rw [ex]; exact b2 o ho), rd_eq iB y _ (by rw [ey]; exact b2' o' ho')]
   rw [id_eq_iff a1 a1' (by rw [ownG_length]; exact ho) (by rw [ownG_length]; exact ho'), id_eq_iff b1 b1' (by rw [ownG_length]; exact ho) (by rw [ownG_length]; exact ho')]
   have eA : a = a' ↔ ownG (iA.take (tcount (l.take j))) r = ownG (iA.take (tcount (l.take j'))) r' := by
    constructor
    ·rintro rfl; rw [a1] at a1'; injection a1'
    ·intro e; rw [← e] at a1'; exact dA' _ _ _ a1 a1'
   have eB : b = b' ↔ ownG (iB.take (tcount (l.take j))) r = ownG (iB.take (tcount (l.take j'))) r' := by
    constructor
    ·rintro rfl; rw [b1] at b1'; injection b1'
    ·intro e; rw [← e] at b1'; exact dB' _ _ _ b1 b1'
   rw [eA, eB]
   have hle := tcount_take_le l j r hr
   have hle' := tcount_take_le l j' r' hr'
   have lenA : ∀ n, n ≤ tcount l → (iA.take n).length = n := fun n hn => by rw [List.length_take]; omega
   have lenB : ∀ n, n ≤ tcount l → (iB.take n).length = n := fun n hn => by rw [List.length_take]; omega
   have hm := tcount_mono l j k (by omega)
   have hm' := tcount_mono l j' k (by omega)
   have own : ownG (iA.take (tcount (l.take j))) r = ownG (iA.take (tcount (l.take j'))) r' ↔ ownG (iB.take (tcount (l.take j))) r = ownG (iB.take (tcount (l.take j'))) r' := by
    unfold ownG
    refine map_iff _ _ fun s hs u hu => ?_
    refine mroll_iff (hc.tq hr hs) (hc.tq hr' hu) fun p q hp hq => ?_
    refine rollF_iff hp.1 hq.1 (fun i hi => nA i (List.mem_of_mem_take hi)) (fun i hi => nA i (List.mem_of_mem_take hi)) (fun i hi => nB i (List.mem_of_mem_take hi)) (fun i hi => nB i (List.mem_of_mem_take hi)) (by rw [lenA _ (by omega), lenB _ (by omega)]) (by rw [lenA _ (by omega), lenB _ (by omega)]) ?_
    intro p0 p1 q0 q1
    rw [lenA _ (by omega)] at p1 q1
    rw [rd_take _ _ _ p0 p1, rd_take _ _ _ q0 q1, rd_take _ _ _ p0 p1, rd_take _ _ _ q0 q1]
    exact ih (by omega) p q p0 (by omega) q0 (by omega)
   rw [own]
 have := key l.length (Nat.le_refl _) x y hx.1 (by rw [List.take_length]; exact hx.2) hy.1 (by rw [List.take_length]; exact hy.2)
 exact this
end Go.Proofs.YtohlmkcgempdlaaGreatDoor.Cn
namespace Go.Proofs.YtohlmkcgempdlaaGreatDoor.Cn
set_option linter.unusedSimpArgs false
set_option maxRecDepth 100000
set_option linter.unusedVariables false
open Go.RowKit Go.Maps Go.Proofs.YtohlmkcgempdlaaGreatDoorW.PrintWords Go.Proofs.YtohlmkcgempdlaaGreatDoorW.PrintLast Go.Proofs.YtohlmkcgempdlaaGreatDoor.QD Go.Proofs.YtohlmkcgempdlaaGreatDoor.Opb
theorem N64_of_wf {x : Int} (h : (Lit.int .i64 x).wf = true) : N64 x := by
 simp only [Lit.wf, Bool.and_eq_true, decide_eq_true_eq] at h
 exact h
theorem opbInt : Opb Tryz.prog 3 (Kd.int .i64) N64 (fun _ => 1) := (Opb.int Tryz.underlying3 (by kernel_rfl)).imp (fun _ h => N64_of_wf h) (fun _ => Nat.le_refl _)
theorem opbVT : Opb Tryz.prog 39 k39 (fun v => N64 v.f0 ∧ N64 v.f2) (fun _ => 1) :=
 (Opb.iso (Opb.struct Tryz.underlying39 (by kernel_rfl) (OpbF.cons opbInt rfl rfl (OpbF.cons (Opb.bool Tryz.underlying4 (by kernel_rfl)) rfl rfl (OpbF.last opbInt rfl)))) (fun x : S39 => (x.f0, x.f1, x.f2)) (fun x => ⟨x.1, x.2.1, x.2.2⟩) (fun _ => rfl)).imp (fun _ h => ⟨h.1, h.2.2⟩) (fun _ => by omega)
theorem opbFT : Opb Tryz.prog 172 k172 (fun v => N64 v.f0.f0 ∧ N64 v.f0.f2) (fun _ => 1) :=
 (Opb.iso (Opb.struct Tryz.underlying172 (by kernel_rfl) (OpbF.cons opbVT rfl rfl (OpbF.last (Opb.bool Tryz.underlying4 (by kernel_rfl)) rfl))) (fun x : S172 => (x.f0, x.f1)) (fun x => ⟨x.1, x.2⟩) (fun _ => rfl)).imp (fun _ h => h.1) (fun _ => by omega)
theorem sum_ones {α : Type} (l : List α) : (l.map fun _ => 1).sum = l.length := by
 induction l with
 | nil => rfl
 | cons x l ih => simp only [List.map_cons, List.sum_cons, ih, List.length_cons]; omega
theorem opbInts : Opb Tryz.prog 23 (Kd.slice 3 (Kd.int .i64)) (fun xs => ∀ x ∈ xs, N64 x) (fun xs => xs.length) := (Opb.slice Tryz.underlying23 (by kernel_rfl) opbInt).imp (fun _ h => h) (fun _ => by rw [sum_ones]; omega)
theorem opbVTs : Opb Tryz.prog 27 (Kd.slice 39 k39) (fun xs => ∀ v ∈ xs, N64 v.f0 ∧ N64 v.f2) (fun xs => xs.length) := (Opb.slice Tryz.underlying27 (by kernel_rfl) opbVT).imp (fun _ h => h) (fun _ => by rw [sum_ones]; omega)
theorem opbFTs : Opb Tryz.prog 119 (Kd.slice 172 k172) (fun xs => ∀ v ∈ xs, N64 v.f0.f0 ∧ N64 v.f0.f2) (fun xs => xs.length) := (Opb.slice Tryz.underlying119 (by kernel_rfl) opbFT).imp (fun _ h => h) (fun _ => by rw [sum_ones]; omega)
/-- A composite type that came in. -/
structure CIn (c : S121) : Prop where
 k : N64 c.f0
 p : ∀ v ∈ c.f1, N64 v.f0 ∧ N64 v.f2
 r : ∀ v ∈ c.f2, N64 v.f0 ∧ N64 v.f2
 f : ∀ v ∈ c.f3, N64 v.f0.f0 ∧ N64 v.f0.f2
def wC (c : S121) : Nat := c.f1.length + c.f2.length + c.f3.length + 1
theorem opbCT : Opb Tryz.prog 121 k121 CIn wC :=
 (Opb.iso (Opb.struct Tryz.underlying121 (by kernel_rfl) (OpbF.cons opbInt rfl rfl (OpbF.cons opbVTs rfl rfl (OpbF.cons opbVTs rfl rfl (OpbF.last opbFTs rfl))))) (fun x : S121 => (x.f0, x.f1, x.f2, x.f3)) (fun x => ⟨x.1, x.2.1, x.2.2.1, x.2.2.2⟩) (fun _ => rfl)).imp (fun _ h => ⟨h.1, h.2.1, h.2.2.1, h.2.2.2⟩) (fun _ => by unfold wC; dsimp only; omega)
/-- A type that came in. -/
structure SIn (s : S123) : Prop where
 u : ∀ x ∈ s.f1, N64 x
 c : CIn s.f2
theorem opbST : Opb Tryz.prog 123 k123 SIn wS :=
 (Opb.iso (Opb.struct Tryz.underlying123 (by kernel_rfl) (OpbF.cons (Opb.bool Tryz.underlying4 (by kernel_rfl)) rfl rfl (OpbF.cons opbInts rfl rfl (OpbF.last opbCT rfl)))) (fun x : S123 => (x.f0, x.f1, x.f2)) (fun x => ⟨x.1, x.2.1, x.2.2⟩) (fun _ => rfl)).imp (fun _ h => ⟨h.2.1, h.2.2⟩) (fun _ => by unfold wS wC; dsimp only; omega)
theorem opbSTs : Opb Tryz.prog 130 (Kd.slice 123 k123) (fun xs => ∀ s ∈ xs, SIn s) (fun xs => wG xs) := (Opb.slice Tryz.underlying130 (by kernel_rfl) opbST).imp (fun _ h => h) (fun _ => by unfold wG; omega)
/-- A group that came in. -/
def GIn (r : S132) : Prop := ∀ s ∈ r.f0, SIn s
theorem opbRT : Opb Tryz.prog 132 k132 GIn (fun r => wG r.f0 + 1) :=
 (Opb.iso (Opb.struct Tryz.underlying132 (by kernel_rfl) (OpbF.cons opbSTs rfl rfl (OpbF.last (Opb.bool Tryz.underlying4 (by kernel_rfl)) rfl))) (fun x : S132 => (x.f0, x.f1)) (fun x => ⟨x.1, x.2⟩) (fun _ => rfl)).imp (fun _ h => h.1) (fun _ => by dsimp only; omega)
def LIn (l : List S132) : Prop := ∀ r ∈ l, GIn r
def wLL (l : List S132) : Nat := (l.map fun r => wG r.f0 + 1).sum
theorem opbRTs : Opb Tryz.prog 22 (Kd.slice 132 k132) LIn wLL := (Opb.slice Tryz.underlying22 (by kernel_rfl) opbRT).imp (fun _ h => h) (fun _ => by unfold wLL; omega)
theorem wLL_eq (l : List S132) : wLL l = wL l + l.length := by
 unfold wLL wL
 induction l with
 | nil => rfl
 | cons x l ih => simp only [List.map_cons, List.sum_cons, List.length_cons, ih]; omega
theorem wG_le_wL {l : List S132} {r : S132} (h : r ∈ l) : wG r.f0 ≤ wL l := sum_le_mem (fun r => wG r.f0) l r h
theorem wS_le_wG {l : List S123} {s : S123} (h : s ∈ l) : wS s ≤ wG l := sum_le_mem wS l s h
/-- The lists of a type are no longer than they can be. -/
theorem sok_of_w {s : S123} (h : wS s ≤ 1048576) : SOk (fun _ => True) s := by
 unfold wS at h
 exact ⟨fun _ _ => trivial, fun _ _ _ => trivial, fun _ _ _ => trivial, fun _ _ _ => trivial, by omega, by omega, by omega, by omega⟩
theorem sok_all {l : List S132} (h : wL l ≤ 1048576) : ∀ r ∈ l, ∀ s ∈ r.f0, SOk (fun _ => True) s := fun r hr s hs => sok_of_w (Nat.le_trans (wS_le_wG hs) (Nat.le_trans (wG_le_wL hr) h))
theorem rin_all {l : List S132} (h : wL l ≤ 1048576) (hi : LIn l) (hc : Clo l) : ∀ r ∈ l, ∀ s ∈ r.f0, RIn s := by
 intro r hr s hs
 obtain ⟨j, hj, rfl⟩ := List.getElem_of_mem hr
 have t := hc.tq (List.getElem?_eq_getElem hj) hs
 have hb : tcount (l.take (j + 1)) ≤ 1048576 := by
  have h1 := tcount_mono l (j + 1) l.length (by omega)
  rw [List.take_length] at h1
  have h2 := tcount_le_wL l
  omega
 have k := hi _ hr s hs
 have q : ∀ x : Int, (-12 ≤ x ∧ x < (tcount (l.take (j + 1)) : Nat)) → RollQ x := fun x hx => ⟨by omega, by omega⟩
 have o := sok_all h _ hr s hs
 refine ⟨⟨fun x hx => q x (t.q1 x hx), fun v hv e => q _ (t.q2 v hv e), fun v hv e => q _ (t.q3 v hv e), fun v hv e => q _ (t.q4 v hv e), o.l1, o.l2, o.l3, o.l4⟩, k.c.k, fun v hv => (k.c.p v hv).1, fun v hv => (k.c.r v hv).1, fun v hv => (k.c.f v hv).1⟩
/-- A list of groups that the walk may read: at A, of capacity c. -/
structure LA (w : World) (A : Option Addr) (c : Nat) (l : List S132) : Prop where
 C : Kd.C k132 w A l.length l
 cap : l.length ≤ c
 inn : LIn l
 w : wL l + l.length ≤ 1048576
theorem LA.below {w w' : World} {A : Option Addr} {c : Nat} {l : List S132} (h : LA w A c l) (hb : Below w.heap.size w w') : LA w' A c l := ⟨Kd.C_below h.C hb, h.cap, h.inn, h.w⟩
end Go.Proofs.YtohlmkcgempdlaaGreatDoor.Cn
namespace Go.Proofs.YtohlmkcgempdlaaGreatDoor.Cn
set_option linter.unusedSimpArgs false
set_option maxRecDepth 100000
set_option linter.unusedVariables false
open Go.RowKit Go.Maps Go.Proofs.YtohlmkcgempdlaaGreatDoorW.PrintWords Go.Proofs.YtohlmkcgempdlaaGreatDoorW.PrintLast Go.Proofs.YtohlmkcgempdlaaGreatDoorW.PrintMore Go.Proofs.YtohlmkcgempdlaaGreatDoor.QD
theorem rdVT_at (l : List S39) (j : Nat) (h : j < l.length) : rd_T39 l (j : Int) = l[j] := by simp [rd_T39, List.getD_eq_getElem?_getD, List.getElem?_eq_getElem h]
theorem rdFT_at (l : List S172) (j : Nat) (h : j < l.length) : rd_T172 l (j : Int) = l[j] := by simp [rd_T172, List.getD_eq_getElem?_getD, List.getElem?_eq_getElem h]
theorem rdST_at (l : List S123) (j : Nat) (h : j < l.length) : rd_T123 l (j : Int) = l[j] := by simp [rd_T123, List.getD_eq_getElem?_getD, List.getElem?_eq_getElem h]
theorem rdRT_at (l : List S132) (j : Nat) (h : j < l.length) : rd_T132 l (j : Int) = l[j] := by simp [rd_T132, List.getD_eq_getElem?_getD, List.getElem?_eq_getElem h]
theorem rdI_at (l : List Int) (j : Nat) (h : j < l.length) : rd l (j : Int) = l[j] := by simp [rd, List.getD_eq_getElem?_getD, List.getElem?_eq_getElem h]
theorem wrapS (j : Nat) (h : j ≤ 1099511627776) : wrap64 ((j : Int) + 1) = ((j + 1 : Nat) : Int) := by unfold wrap64; omega
theorem ltI {j n : Nat} (h : j < n) : (j : Int) < (n : Int) := by omega
theorem nltI {j n : Nat} (h : j = n) : ¬ (j : Int) < (n : Int) := by omega
theorem geI (j : Nat) : (0 : Int) ≤ (j : Int) := Int.natCast_nonneg j
def heapsOf (l : List S39) : List Int := (l.filter fun v => decide (v.f0 = 5)).map fun v => v.f2
theorem heapsOf_cons (v : S39) (l : List S39) : heapsOf (v :: l) = if v.f0 = 5 then v.f2 :: heapsOf l else heapsOf l := by
 unfold heapsOf
 by_cases h : v.f0 = 5
 ·rw [List.filter_cons_of_pos (by simp [h]), if_pos h]; rfl
 ·rw [List.filter_cons_of_neg (by simp [h]), if_neg h]
theorem wL_drop (l : List S132) (j : Nat) (h : j < l.length) : wL (l.drop j) = wG l[j].f0 + wL (l.drop (j + 1)) := by
 rw [List.drop_eq_getElem_cons h]
 unfold wL
 rw [List.map_cons, List.sum_cons]
theorem heapsOf_len (l : List S39) : (heapsOf l).length ≤ l.length := by unfold heapsOf; rw [List.length_map]; exact List.length_filter_le _ _
theorem mem_heapsOf (l : List S39) (h : Int) : h ∈ heapsOf l ↔ ∃ v ∈ l, v.f0 = 5 ∧ v.f2 = h := by
 unfold heapsOf
 simp only [List.mem_map, List.mem_filter, decide_eq_true_eq]
 constructor
 ·rintro ⟨v, ⟨h1, h2⟩, h3⟩; exact ⟨v, h1, h2, h3⟩
 ·rintro ⟨v, h1, h2, h3⟩; exact ⟨v, ⟨h1, h2⟩, h3⟩
theorem r5heaps_l0 (l : List S39) (hn : l.length ≤ 1048576) : ∀ (m j K : Nat) (acc : List Int), j + m = l.length → m + 1 ≤ K → acc.length ≤ j → ratchetref05_heaps.l0 K l acc (j : Int) = some (acc ++ heapsOf (l.drop j)) := by
 intro m
 induction m with
 | zero =>
  intro j K acc hj hK ha
  obtain ⟨K, rfl⟩ : ∃ k, K = k + 1 := ⟨K - 1, by omega⟩
  have hjl : j = l.length := by omega
  rw [ratchetref05_heaps.l0, if_neg (nltI hjl), hjl, List.drop_length]
  simp [heapsOf]
 | succ m ih =>
  intro j K acc hj hK ha
  obtain ⟨K, rfl⟩ : ∃ k, K = k + 1 := ⟨K - 1, by omega⟩
  have hlt : j < l.length := by omega
  rw [ratchetref05_heaps.l0, if_pos (ltI hlt), if_pos (geI j), rdVT_at l j hlt, List.drop_eq_getElem_cons hlt]
  by_cases h5 : l[j].f0 = 5
  ·rw [if_pos h5, if_pos (by omega), wrapS j (by omega), ih (j + 1) K _ (by omega) (by omega) (by simp; omega), heapsOf_cons, if_pos h5, List.append_assoc]
   rfl
  ·rw [if_neg h5, wrapS j (by omega), ih (j + 1) K _ (by omega) (by omega) (by omega), heapsOf_cons, if_neg h5]
theorem r5heaps (l : List S39) (hn : l.length ≤ 1048576) (K : Nat) (hK : l.length + 1 ≤ K) : ratchetref05_heaps.f K l = some (heapsOf l) := by
 have := r5heaps_l0 l hn l.length 0 K [] (by omega) hK (by simp)
 unfold ratchetref05_heaps.f
 simpa using this
def allOf (s : S123) : List Int := s.f1 ++ heapsOf s.f2.f1 ++ heapsOf s.f2.f2 ++ heapsOf (s.f2.f3.map fun f => f.f0)
theorem allOf_len (s : S123) : (allOf s).length ≤ wS s := by
 unfold allOf wS
 have h1 := heapsOf_len s.f2.f1
 have h2 := heapsOf_len s.f2.f2
 have h3 := heapsOf_len (s.f2.f3.map fun f => f.f0)
 simp only [List.length_append, List.length_map] at *
 omega
theorem r5All_l0 (a0 : Bool) (l1 : List Int) (a2 : Int) (l3 l4 : List S39) (l5 : List S172) (hn : l5.length ≤ 1048576) : ∀ (m j K : Nat) (acc : List Int), j + m = l5.length → m + 3 ≤ K → acc.length ≤ 4194304 + j → ratchetref05_All.l0 K acc (j : Int) a0 l1 a2 l3 l4 l5 = some (acc ++ heapsOf ((l5.drop j).map fun f => f.f0)) := by
 intro m
 induction m with
 | zero =>
  intro j K acc hj hK ha
  obtain ⟨K, rfl⟩ : ∃ k, K = k + 1 := ⟨K - 1, by omega⟩
  have hjl : j = l5.length := by omega
  rw [ratchetref05_All.l0, if_neg (nltI hjl), hjl, List.drop_length]
  simp [heapsOf]
 | succ m ih =>
  intro j K acc hj hK ha
  obtain ⟨K, rfl⟩ : ∃ k, K = k + 1 := ⟨K - 1, by omega⟩
  have hlt : j < l5.length := by omega
  have e := heapsOf_len [l5[j].f0]
  simp only [List.length_singleton] at e
  rw [ratchetref05_All.l0, if_pos (ltI hlt), if_pos (geI j), rdFT_at l5 j hlt, List.drop_eq_getElem_cons hlt]
  have e2 : ([(⟨l5[j].f0.f0, l5[j].f0.f1, l5[j].f0.f2⟩ : S39)] : List S39) = [l5[j].f0] := rfl
  rw [e2, r5heaps [l5[j].f0] (by simp) K (by simp; omega), Option.bind_some, if_pos (by omega), wrapS j (by omega), ih (j + 1) K _ (by omega) (by omega) (by rw [List.length_append]; omega)]
  rw [List.map_cons, List.append_assoc]
  congr 2
  unfold heapsOf
  rw [← List.map_append, ← List.filter_append]
  rfl
theorem r5All (s : S123) (hw : wS s ≤ 1048576) (K : Nat) (hK : wS s + 3 ≤ K) : ratchetref05_All.f K s.f0 s.f1 s.f2.f0 s.f2.f1 s.f2.f2 s.f2.f3 = some (allOf s) := by
 unfold wS at hw hK
 have h1 := heapsOf_len s.f2.f1
 have h2 := heapsOf_len s.f2.f2
 unfold ratchetref05_All.f allOf
 rw [if_pos (by simp; omega), Option.bind_some, List.nil_append, r5heaps _ (by omega) K (by omega), Option.bind_some, if_pos (by omega), Option.bind_some, r5heaps _ (by omega) K (by omega), Option.bind_some, if_pos (by rw [List.length_append]; omega)]
 have := r5All_l0 s.f0 s.f1 s.f2.f0 s.f2.f1 s.f2.f2 s.f2.f3 (by omega) s.f2.f3.length 0 K (s.f1 ++ heapsOf s.f2.f1 ++ heapsOf s.f2.f2) (by omega) (by omega) (by simp only [List.length_append]; omega)
 simpa using this
open Classical in
theorem r5fine_l1 (en : Int) (l : List Int) (hn : l.length ≤ 4194304) : ∀ (m j K : Nat), j + m = l.length → m + 1 ≤ K → ratchetref05_fine.l1 K en l (j : Int) = some (decide (∀ h ∈ l.drop j, -12 ≤ h ∧ h < en)) := by
 intro m
 induction m with
 | zero =>
  intro j K hj hK
  obtain ⟨K, rfl⟩ : ∃ k, K = k + 1 := ⟨K - 1, by omega⟩
  have hjl : j = l.length := by omega
  rw [ratchetref05_fine.l1, if_neg (nltI hjl), hjl, List.drop_length]
  simp
 | succ m ih =>
  intro j K hj hK
  obtain ⟨K, rfl⟩ : ∃ k, K = k + 1 := ⟨K - 1, by omega⟩
  have hlt : j < l.length := by omega
  rw [ratchetref05_fine.l1, if_pos (ltI hlt), if_pos (geI j), rdI_at l j hlt]
  have key : (∀ h ∈ l.drop j, -12 ≤ h ∧ h < en) ↔ (-12 ≤ l[j] ∧ l[j] < en) ∧ ∀ h ∈ l.drop (j + 1), -12 ≤ h ∧ h < en := by
   rw [List.drop_eq_getElem_cons hlt]
   simp only [List.mem_cons, forall_eq_or_imp]
  by_cases h1 : l[j] ≥ en
  ·rw [if_pos h1, decide_eq_false (fun h => by have := (key.1 h).1; omega)]
  ·rw [if_neg h1]
   by_cases h2 : l[j] < -12
   ·rw [if_pos h2, decide_eq_false (fun h => by have := (key.1 h).1; omega)]
   ·rw [if_neg h2, wrapS j (by omega), ih (j + 1) K (by omega) (by omega)]
    refine congrArg some (decide_eq_decide.2 ?_)
    rw [key]
    exact ⟨fun h => ⟨⟨by omega, by omega⟩, h⟩, fun h => h.2⟩
open Classical in
theorem r5fine_l0 (en : Int) (s : S123) (hw : wS s ≤ 1048576) : ∀ (m j K : Nat), j + m = s.f1.length → m + 2 * wS s + 8 ≤ K → ratchetref05_fine.l0 K en (j : Int) s.f0 s.f1 s.f2.f0 s.f2.f1 s.f2.f2 s.f2.f3 = some (decide ((∀ h ∈ s.f1.drop j, 0 ≤ h ∧ h < en) ∧ ∀ h ∈ allOf s, -12 ≤ h ∧ h < en)) := by
 have hw' := hw
 unfold wS at hw'
 intro m
 induction m with
 | zero =>
  intro j K hj hK
  obtain ⟨K, rfl⟩ : ∃ k, K = k + 1 := ⟨K - 1, by omega⟩
  have hjl : j = s.f1.length := by omega
  have ha := allOf_len s
  have := r5fine_l1 en (allOf s) (by omega) (allOf s).length 0 K (by omega) (by omega)
  rw [show ((0 : Nat) : Int) = 0 from rfl] at this
  rw [ratchetref05_fine.l0, if_neg (nltI hjl), r5All s hw K (by omega), Option.bind_some, this, hjl, List.drop_length]
  refine congrArg some (decide_eq_decide.2 ?_)
  rw [List.drop_zero]
  exact ⟨fun h => ⟨fun _ hx => by simp at hx, h⟩, fun h => h.2⟩
 | succ m ih =>
  intro j K hj hK
  obtain ⟨K, rfl⟩ : ∃ k, K = k + 1 := ⟨K - 1, by omega⟩
  have hlt : j < s.f1.length := by omega
  rw [ratchetref05_fine.l0, if_pos (ltI hlt), if_pos (geI j), rdI_at s.f1 j hlt]
  have key : (∀ h ∈ s.f1.drop j, 0 ≤ h ∧ h < en) ↔ (0 ≤ s.f1[j] ∧ s.f1[j] < en) ∧ ∀ h ∈ s.f1.drop (j + 1), 0 ≤ h ∧ h < en := by
   rw [List.drop_eq_getElem_cons hlt]
   simp only [List.mem_cons, forall_eq_or_imp]
  by_cases h1 : s.f1[j] < 0
  ·rw [if_pos h1, decide_eq_false (fun h => by have := (key.1 h.1).1; omega)]
  ·rw [if_neg h1]
   by_cases h2 : s.f1[j] ≥ en
   ·rw [if_pos h2, decide_eq_false (fun h => by have := (key.1 h.1).1; omega)]
   ·rw [if_neg h2, wrapS j (by omega), ih (j + 1) K (by omega) (by omega)]
    refine congrArg some (decide_eq_decide.2 ?_)
    rw [key]
    exact ⟨fun h => ⟨⟨⟨by omega, by omega⟩, h.1⟩, h.2⟩, fun h => ⟨h.1.2, h.2⟩⟩
theorem allOf_iff (en : Int) (s : S123) : (∀ h ∈ allOf s, -12 ≤ h ∧ h < en) ↔ TQ (fun h => -12 ≤ h ∧ h < en) s := by
 unfold allOf
 simp only [List.mem_append, mem_heapsOf, List.mem_map]
 constructor
 ·intro h
  refine ⟨fun x hx => h x (.inl (.inl (.inl hx))), fun v hv e => h _ (.inl (.inl (.inr ⟨v, hv, e, rfl⟩))), fun v hv e => h _ (.inl (.inr ⟨v, hv, e, rfl⟩)), fun v hv e => h _ (.inr ⟨v.f0, ⟨v, hv, rfl⟩, e, rfl⟩)⟩
 ·rintro ⟨h1, h2, h3, h4⟩ x (((hx | ⟨v, hv, e, rfl⟩) | ⟨v, hv, e, rfl⟩) | ⟨_, ⟨v, hv, rfl⟩, e, rfl⟩)
  ·exact h1 x hx
  ·exact h2 v hv e
  ·exact h3 v hv e
  ·exact h4 v hv e
theorem r5fine (en : Int) (s : S123) (hw : wS s ≤ 1048576) (K : Nat) (hK : 3 * wS s + 8 ≤ K) : ratchetref05_fine.f K s.f0 s.f1 s.f2.f0 s.f2.f1 s.f2.f2 s.f2.f3 en = some (typeOk en s) := by
 have := r5fine_l0 en s hw s.f1.length 0 K (by omega) (by unfold wS at *; omega)
 unfold ratchetref05_fine.f
 rw [show (0 : Int) = ((0 : Nat) : Int) from rfl, this, List.drop_zero]
 refine congrArg some ?_
 rw [Bool.eq_iff_iff, decide_eq_true_eq, typeOk_iff, allOf_iff]
 constructor
 ·rintro ⟨h1, h2⟩; exact ⟨fun h hh => (h1 h hh).1, h2⟩
 ·rintro ⟨h1, h2⟩; exact ⟨fun h hh => ⟨h1 h hh, (h2.q1 h hh).2⟩, h2⟩
/-- The first type that speaks of what it may not: its number, of a list that is not closed. -/
structure BadAt (l : List S132) (n : Nat) : Prop where
 at_ : ∃ (j i : Nat) (r : S132) (s : S123), l[j]? = some r ∧ r.f0[i]? = some s ∧ n = tcount (l.take j) + i ∧ typeOk (tcount (l.take (j + 1)) : Nat) s = false ∧
  (∀ (j' : Nat) (r' : S132), j' < j → l[j']? = some r' → ∀ s' ∈ r'.f0, typeOk (tcount (l.take (j' + 1)) : Nat) s' = true) ∧ ∀ (i' : Nat) (s' : S123), i' < i → r.f0[i']? = some s' → typeOk (tcount (l.take (j + 1)) : Nat) s' = true
theorem BadAt.not {l : List S132} {n : Nat} (h : BadAt l n) : ¬ Clo l := by
 obtain ⟨j, i, r, s, hr, hs, _, hb, _⟩ := h.at_
 intro hc
 rw [hc j r hr s (List.mem_of_getElem? hs)] at hb
 cases hb
/-- What Closed answers. -/
def CloOut (l : List S132) (n e : Int) : Prop := (Clo l ∧ n = 0 ∧ e = 0) ∨ ∃ m : Nat, BadAt l m ∧ n = m ∧ e = 50
theorem r5closed_l (l : List S132) (hn : l.length ≤ 1048576) (hw : wL l ≤ 1048576) : ∀ (m j K : Nat), j + m = l.length → 4 * m + 4 * wL (l.drop j) + 40 ≤ K → (∀ (j' : Nat) (r' : S132), j' < j → l[j']? = some r' → ∀ s' ∈ r'.f0, typeOk (tcount (l.take (j' + 1)) : Nat) s' = true) →
  ∃ n e, ratchetref05_Closed.l0 K l (tcount (l.take j) : Nat) (j : Int) = some (n, e) ∧ CloOut l n e := by
 have htl := tcount_le_wL l
 intro m
 induction m with
 | zero =>
  intro j K hj hK hpre
  obtain ⟨K, rfl⟩ : ∃ k, K = k + 1 := ⟨K - 1, by omega⟩
  have hjl : j = l.length := by omega
  rw [ratchetref05_Closed.l0, if_neg (nltI hjl)]
  refine ⟨0, 0, rfl, .inl ⟨fun j' r' hr' s' hs' => ?_, rfl, rfl⟩⟩
  exact hpre j' r' (by have := (List.getElem?_eq_some_iff.1 hr').1; omega) hr' s' hs'
 | succ m ih =>
  intro j K hj hK hpre
  obtain ⟨K, rfl⟩ : ∃ k, K = k + 1 := ⟨K - 1, by omega⟩
  have hlt : j < l.length := by omega
  have hr := List.getElem?_eq_getElem hlt
  have h1 := tcount_take l j _ hr
  have h2 := tcount_take_le l j _ hr
  have hwd : wL (l.drop j) = wG l[j].f0 + wL (l.drop (j + 1)) := wL_drop l j hlt
  have hgl := length_le_wG l[j].f0
  have hgw := wG_le_wL (List.getElem_mem hlt)
  have e : wrap64 ((tcount (l.take j) : Nat) + (l[j].f0.length : Int)) = (tcount (l.take (j + 1)) : Nat) := by rw [h1]; unfold wrap64; omega
  rw [ratchetref05_Closed.l0, if_pos (ltI hlt), if_pos (geI j), rdRT_at l j hlt, e]
  clear e
  have inner : ∀ (p i Q : Nat), i + p = l[j].f0.length → p + 3 * wG l[j].f0 + 4 * m + 4 * wL (l.drop (j + 1)) + 42 ≤ Q → (∀ (i' : Nat) (s' : S123), i' < i → l[j].f0[i']? = some s' → typeOk (tcount (l.take (j + 1)) : Nat) s' = true) →
    ∃ n e, ratchetref05_Closed.l1 Q l (tcount (l.take j) : Nat) (j : Int) (tcount (l.take (j + 1)) : Nat) (i : Int) = some (n, e) ∧ CloOut l n e := by
   intro p
   induction p with
   | zero =>
    intro i Q hi hQ hin
    obtain ⟨Q, rfl⟩ : ∃ k, Q = k + 1 := ⟨Q - 1, by omega⟩
    rw [ratchetref05_Closed.l1, if_pos (geI j), if_pos (ltI hlt), rdRT_at l j hlt, if_neg (nltI (by omega)), wrapS j (by omega)]
    refine ih (j + 1) Q (by omega) (by omega) (fun j' r' hj' hr' s' hs' => ?_)
    rcases Nat.lt_or_ge j' j with hl | hl
    ·exact hpre j' r' hl hr' s' hs'
    ·have ej : j' = j := by omega
     subst ej
     rw [hr] at hr'
     injection hr' with hr'
     subst hr'
     obtain ⟨i', hi', rfl⟩ := List.getElem_of_mem hs'
     exact hin i' _ (by omega) (List.getElem?_eq_getElem hi')
   | succ p ihp =>
    intro i Q hi hQ hin
    obtain ⟨Q, rfl⟩ : ∃ k, Q = k + 1 := ⟨Q - 1, by omega⟩
    have hil : i < l[j].f0.length := by omega
    have hws := wS_le_wG (List.getElem_mem hil)
    rw [ratchetref05_Closed.l1, if_pos (geI j), if_pos (ltI hlt), rdRT_at l j hlt, if_pos (ltI hil), if_pos (geI i), rdST_at l[j].f0 i hil, r5fine _ l[j].f0[i] (by omega) Q (by omega), Option.bind_some]
    cases ht : typeOk (tcount (l.take (j + 1)) : Nat) l[j].f0[i] with
    | true =>
     rw [if_pos rfl, wrapS i (by omega)]
     refine ihp (i + 1) Q (by omega) (by omega) (fun i' s' hi' hs' => ?_)
     rcases Nat.lt_or_ge i' i with hl | hl
     ·exact hin i' s' hl hs'
     ·have ei : i' = i := by omega
      subst ei
      rw [List.getElem?_eq_getElem hil] at hs'
      injection hs' with hs'
      subst hs'
      exact ht
    | false =>
     rw [if_neg (by simp)]
     refine ⟨_, _, rfl, .inr ⟨tcount (l.take j) + i, ⟨j, i, l[j], l[j].f0[i], hr, List.getElem?_eq_getElem hil, rfl, ht, hpre, hin⟩, ?_, rfl⟩⟩
     unfold wrap64
     omega
  exact inner l[j].f0.length 0 K (by omega) (by omega) (fun i' s' hi' => by omega)
theorem r5closed (l : List S132) (hn : l.length ≤ 1048576) (hw : wL l ≤ 1048576) (K : Nat) (hK : 4 * l.length + 4 * wL l + 40 ≤ K) : ∃ n e, ratchetref05_Closed.f K l = some (n, e) ∧ CloOut l n e := by
 obtain ⟨n, e, h, ho⟩ := r5closed_l l hn hw l.length 0 K (by omega) (by simpa using hK) (fun j' r' hj' => by omega)
 refine ⟨n, e, ?_, ho⟩
 unfold ratchetref05_Closed.f
 simpa [tcount] using h
def rolsFrom (n : Int) (gs : List (List S123)) : List S271 := (famsFrom n gs).map fun p => ⟨p.2, p.1⟩
/-- Block g is a table of the reference that holds the groups gs; v: their row. -/
structure R6 (B g : Nat) (ok : Nat → Prop) (gs : List (List S123)) (v : Value) (W : World) : Prop where
 box : W.heap[g]? = some (.cells #[v, .int .i64 (manyOf gs)] 263 (0, 0))
 row : Kd.R k271 271 W B ok v (rolsFrom 0 gs)
 hg : B ≤ g
theorem fr_row {B g b : Nat} {w W : World} {v : Value} {l : List Int} {B0 : Nat} {ok : Nat → Prop} (hf : FrA B g b w W) (hr : Kd.R (Kd.int .i64) 3 w B0 ok v l) (hg : ∃ cs t, w.heap[g]? = some (.cells cs t (0, 0)) ∧ t ≠ 3) (hb : ∀ cs t, w.heap[b]? ≠ some (.cells cs t (0, 0))) : Kd.R (Kd.int .i64) 3 W B0 (fun _ => True) v l := by
 refine Kd.R_mono (Kd.R_step (Kd.R_bound hr) (w1 := W) (fun k hk hlt => ?_)) (fun _ _ => trivial)
 obtain ⟨_, _, _, q, hq, cells, hc⟩ := hk
 have hq3 : q = 3 := List.mem_singleton.1 hq
 subst hq3
 rw [hc]
 refine hf.oth k _ hc ?_ ?_ ?_
 ·rintro rfl
  obtain ⟨cs, t, h1, h2⟩ := hg
  rw [h1] at hc
  injection hc with hc
  injection hc with _ hc _
  exact h2 hc
 ·rintro rfl
  exact hb _ _ hc
 ·intro c_ fz_ e
  injection e with _ e _
  exact absurd e (by decide)
set_option maxHeartbeats 8000000 in
theorem one_calls (A1 : Option Addr) (c1 : Nat) (a : List S132) (A2 : Option Addr) (c2 : Nat) (b : List S132) (x y : Int) (w : World) (hCa : Kd.C k132 w A1 a.length a) (hca : a.length ≤ c1) (hCb : Kd.C k132 w A2 b.length b) (hcb : b.length ≤ c2)
  (hsa : ∀ r ∈ a, ∀ s ∈ r.f0, SOk (fun _ => True) s) (hsb : ∀ r ∈ b, ∀ s ∈ r.f0, SOk (fun _ => True) s) (hia : Clo a → ∀ r ∈ a, ∀ s ∈ r.f0, RIn s) (hib : Clo b → ∀ r ∈ b, ∀ s ∈ r.f0, RIn s) (hwa : wL a ≤ 1048576) (hwb : wL b ≤ 1048576) (hla : a.length ≤ 1048576) (hlb : b.length ≤ 1048576)
  (htab : Lib.TabBelow Tryz.prog w.heap.size w "internal/strconv.uint64pow10" .u64 Lib.pow10Tab) :
  Calls Tryz.prog 165 #[.slice A1 a.length c1, .slice A2 b.length c2, .int .i64 x, .int .i64 y] w fun e w' => e = .returned (.tuple #[.bool (oneM a b x y).1, .int .i64 (oneM a b x y).2]) ∧ Below w.heap.size w w' := by
 have hta : tcount a ≤ 1048576 := Nat.le_trans (tcount_le_wL a) hwa
 have htb : tcount b ≤ 1048576 := Nat.le_trans (tcount_le_wL b) hwb
 have N1 : Aside0 (tcount a ≤ 1099511627776) := ⟨by omega⟩
 have N2 : Aside0 (tcount b ≤ 1099511627776) := ⟨by omega⟩
 have N3 : Aside0 (a.length ≤ 1099511627776) := ⟨by omega⟩
 have N4 : Aside0 (b.length ≤ 1099511627776) := ⟨by omega⟩
 have HCA := Aside0.mk hCa
 have HCB := Aside0.mk hCb
 have HSA := Aside0.mk hsa
 have HSB := Aside0.mk hsb
 have HIA := Aside0.mk hia
 have HIB := Aside0.mk hib
 have HWA := Aside0.mk hwa
 have HWB := Aside0.mk hwb
 have HTAB := Aside0.mk htab
 clear hCa hCb hsa hsb hia hib hwa hwb htab
 go_enter Tryz.func165, Tryz.ntmps165
 go_wp2_with fail
 refine (closed_calls A1 c1 a w HCA.out hca (by omega) (by omega) HSA.out).mono ?_
 rintro e w1 ⟨⟨n, er, rfl, hcl⟩, hb1⟩
 have B1 := Aside0.mk hb1
 clear hb1
 rcases hcl with ⟨rfl, rfl, hcla⟩ | ⟨rfl, hncla⟩
 rotate_left
 ·go_wp2_with fail
  go_ret2
  have e0 : oneM a b x y = (false, 50) := by unfold oneM; rw [if_neg (fun h => hncla h.1)]
  rw [e0]
  exact ⟨rfl, B1.out⟩
 have HCLA := Aside0.mk hcla
 clear hcla
 go_wp2_with fail
 refine (closed_calls A2 c2 b w1 (Kd.C_below HCB.out B1.out) hcb (by omega) (by omega) HSB.out).mono ?_
 rintro e w2 ⟨⟨n, er, rfl, hcl⟩, hb2⟩
 have B2 := Aside0.mk (B1.out.trans (hb2.mono B1.out.size))
 clear hb2
 rcases hcl with ⟨rfl, rfl, hclb⟩ | ⟨rfl, hnclb⟩
 rotate_left
 ·go_wp2_with fail
  go_ret2
  have e0 : oneM a b x y = (false, 50) := by unfold oneM; rw [if_neg (fun h => hnclb h.2)]
  rw [e0]
  exact ⟨rfl, B2.out⟩
 have HCLB := Aside0.mk hclb
 clear hclb
 have HCA2 := Aside0.mk (Kd.C_below HCA.out B2.out)
 have HCB2 := Aside0.mk (Kd.C_below HCB.out B2.out)
 have out1 : ¬ (0 ≤ x ∧ x < tcount a ∧ 0 ≤ y ∧ y < tcount b) → oneM a b x y = (false, 1) := fun h => by unfold oneM; rw [if_pos ⟨HCLA.out, HCLB.out⟩, if_neg h]
 have OUT1 := Aside0.mk out1
 clear out1
 obtain ⟨ta, eta⟩ : ∃ ta : Nat, ta = tcount a := ⟨_, rfl⟩
 obtain ⟨tb, etb⟩ : ∃ tb : Nat, tb = tcount b := ⟨_, rfl⟩
 have KA := count_calls A1 c1 a w2 HCA2.out hca N1.out N3.out
 have KB : ∀ w3, Below w2.heap.size w2 w3 → _ := fun w3 h3 => count_calls A2 c2 b w3 (Kd.C_below HCB2.out h3) hcb N2.out N4.out
 rw [← eta] at KA hta OUT1
 rw [← etb] at htb OUT1
 simp only [← etb] at KB
 have ETA := Aside0.mk eta
 have ETB := Aside0.mk etb
 have KA' := Aside0.mk KA
 have KB' := Aside0.mk KB
 clear KA KB eta etb
 by_cases hx0 : x < 0
 ·go_wp2_with fail
  go_ret2
  rw [OUT1.out (by omega)]
  exact ⟨rfl, B2.out⟩
 by_cases hx1 : (ta : Int) ≤ x
 ·go_wp2_with (go_at_call 60; first | ((with_reducible refine KA'.out.mono ?_); rintro e w3 ⟨rfl, hb3⟩; have B3 := Aside0.mk (B2.out.trans (hb3.mono B2.out.size)); have HB3 := Aside0.mk hb3; clear hb3) | ((with_reducible refine (KB'.out w3 HB3.out).mono ?_); rintro e w4 ⟨rfl, hb4⟩; have B4 := Aside0.mk (B3.out.trans (hb4.mono B3.out.size)); clear hb4))
  go_ret2
  rw [OUT1.out (by omega)]
  exact ⟨rfl, B3.out⟩
 by_cases hy0 : y < 0
 ·go_wp2_with (go_at_call 60; first | ((with_reducible refine KA'.out.mono ?_); rintro e w3 ⟨rfl, hb3⟩; have B3 := Aside0.mk (B2.out.trans (hb3.mono B2.out.size)); have HB3 := Aside0.mk hb3; clear hb3) | ((with_reducible refine (KB'.out w3 HB3.out).mono ?_); rintro e w4 ⟨rfl, hb4⟩; have B4 := Aside0.mk (B3.out.trans (hb4.mono B3.out.size)); clear hb4))
  go_ret2
  rw [OUT1.out (by omega)]
  exact ⟨rfl, B3.out⟩
 by_cases hy1 : (tb : Int) ≤ y
 ·go_wp2_with (go_at_call 60; first | ((with_reducible refine KA'.out.mono ?_); rintro e w3 ⟨rfl, hb3⟩; have B3 := Aside0.mk (B2.out.trans (hb3.mono B2.out.size)); have HB3 := Aside0.mk hb3; clear hb3) | ((with_reducible refine (KB'.out w3 HB3.out).mono ?_); rintro e w4 ⟨rfl, hb4⟩; have B4 := Aside0.mk (B3.out.trans (hb4.mono B3.out.size)); clear hb4))
  go_ret2
  rw [OUT1.out (by omega)]
  exact ⟨rfl, B4.out⟩
 go_wp2_with (go_at_call 60; first | ((with_reducible refine KA'.out.mono ?_); rintro e w3 ⟨rfl, hb3⟩; have B3 := Aside0.mk (B2.out.trans (hb3.mono B2.out.size)); have HB3 := Aside0.mk hb3; clear hb3) | ((with_reducible refine (KB'.out w3 HB3.out).mono ?_); rintro e w4 ⟨rfl, hb4⟩; have B4 := Aside0.mk (B3.out.trans (hb4.mono B3.out.size)); clear hb4))
 refine (new_calls w4 (tab_mono (HTAB.out.on B4.out) B4.out.size)).mono ?_
 rintro e w5 ⟨rfl, ht5, hb5⟩
 have T5 := Aside0.mk ht5
 have B5 := Aside0.mk (B4.out.trans (hb5.mono B4.out.size))
 have B45 := Aside0.mk hb5
 clear ht5 hb5
 obtain ⟨B0, hB0⟩ : ∃ B0, B0 = w4.heap.size := ⟨_, rfl⟩
 rw [← hB0] at T5 B45 ⊢
 have HB0 := Aside0.mk hB0
 have HWB0 : Aside0 (w.heap.size ≤ B0) := ⟨by rw [hB0]; exact B4.out.size⟩
 have HZ5 : Aside0 (B0 ≤ w5.heap.size) := ⟨by rw [hB0]; exact B45.out.size⟩
 clear hB0
 go_wp2_with fail
 obtain ⟨g1, i1, ha1, hm1, hl1, hg1⟩ := addTo_room 9223372036854775807 a [] [] (by have h_ := N1.out; simp [manyOf]; omega)
 refine (add_calls ⟨B0, B0 + 1, 228, [.bool true], [], B0, a, 9223372036854775807, w5⟩ _ _ A1 c1 T5.out (Or.inl rfl) HZ5.out (LR.of_C HCA.out (fun W hW => B5.out.trans (hW.bel.mono HWB0.out))) hca (HIA.out HCLA.out) HWA.out hla (by show manyOf [] ≤ 1099511627776; simp [manyOf]) (by show ([] : List (List S123)).length ≤ 1099511627776; simp) ⟨by show (0 : Int) ≤ 9223372036854775807; decide, by show (9223372036854775807 : Int) ≤ 9223372036854775807; decide⟩).mono ?_
 intro e w6 hout
 unfold AddOut at hout
 dsimp only at hout
 rw [ha1] at hout
 obtain ⟨v6, D6, vi, rfl, hai⟩ := hout
 have A6 := Aside0.mk hai
 have F6 := Aside0.mk hai.fr
 obtain ⟨Ai, ci, hvi⟩ := Kd.R_slice hai.iv
 subst hvi
 have HA1 := Aside0.mk ha1
 have HL1 := Aside0.mk hl1
 clear hai ha1 hl1
 go_wp2_with fail
 obtain ⟨g2, i2, ha2, hm2, hl2, hg2⟩ := addTo_room 9223372036854775807 b g1 [] (by have h_ := N1.out; have h2_ := N2.out; have h3_ : manyOf [] = 0 := rfl; rw [h3_] at hm1; omega)
 have hB6 : B0 ≤ w6.heap.size := Nat.le_trans HZ5.out F6.out.bel.size
 refine (add_calls ⟨B0, B0 + 1, 228, [.bool true], g1, B0, b, 9223372036854775807, w6⟩ _ _ A2 c2 (A6.out.tb.weak (fun _ _ => trivial)) (Or.inl rfl) hB6 (LR.of_C HCB.out (fun W hW => (B5.out.trans (F6.out.bel.mono HWB0.out)).trans (hW.bel.mono HWB0.out))) hcb (HIB.out HCLB.out) HWB.out hlb (by have h_ := N1.out; have h0_ : tcount a ≤ 1048576 := Nat.le_trans (tcount_le_wL a) HWA.out; have h3_ : manyOf [] = 0 := rfl; rw [h3_] at hm1; dsimp only; omega) (by simp at hg1; dsimp only; omega) ⟨by show (0 : Int) ≤ 9223372036854775807; decide, by show (9223372036854775807 : Int) ≤ 9223372036854775807; decide⟩).mono ?_
 intro e w7 hout
 unfold AddOut at hout
 dsimp only at hout
 rw [ha2] at hout
 obtain ⟨v7, D7, vj, rfl, haj⟩ := hout
 have A7 := Aside0.mk haj
 obtain ⟨Aj, cj, hvj⟩ := Kd.R_slice haj.iv
 subst hvj
 have hri : Kd.R (Kd.int .i64) 3 w7 w5.heap.size (fun _ => True) (.slice Ai i1.length ci) i1 := fr_row haj.fr A6.out.iv ⟨_, _, A6.out.tb.box, by show (228 : Nat) ≠ 3; decide⟩ (fun cs t h => by obtain ⟨es, clock, hb, _⟩ := A6.out.tb.map; rw [hb] at h; cases h)
 obtain ⟨_, _, e1, hci, hCi⟩ := Kd.R_reads hri
 injection e1 with e1 e2 e3
 subst e1 e3
 obtain ⟨_, _, e4, hcj, hCj⟩ := Kd.R_reads haj.iv
 injection e4 with e4 e5 e6
 subst e4 e6
 have e0 : ([] : List Int).length = 0 := rfl
 have hli : (x : Int) < i1.length := by have h1_ := HL1.out; have h2_ := ETA.out; rw [e0] at h1_; omega
 have hlj : (y : Int) < i2.length := by have h2_ := ETB.out; rw [e0] at hl2; omega
 obtain ⟨ai, ei, hxi⟩ := Kd.at_int hCi x (by omega) hli
 obtain ⟨aj, ej, hyj⟩ := Kd.at_int hCj y (by omega) hlj
 subst ei ej
 have hone : oneM a b x y = (rd i1 x == rd i2 y, 0) := by
  unfold oneM oneIds
  rw [if_pos ⟨HCLA.out, HCLB.out⟩, if_pos (by have h1_ := ETA.out; have h2_ := ETB.out; omega), HA1.out]
  dsimp only
  rw [ha2]
 have B7 : Aside0 (Below w.heap.size w w7) := ⟨(B5.out.trans (F6.out.bel.mono HWB0.out)).trans (haj.fr.bel.mono HWB0.out)⟩
 have HX7 := Aside0.mk (And.intro hxi hyj)
 have HONE := Aside0.mk hone
 have hx' : 0 ≤ x := by omega
 have hy' : 0 ≤ y := by omega
 obtain ⟨li, hlie⟩ : ∃ li : Nat, li = i1.length := ⟨_, rfl⟩
 obtain ⟨lj, hlje⟩ : ∃ lj : Nat, lj = i2.length := ⟨_, rfl⟩
 rw [← hlie] at hli hci ⊢
 rw [← hlje] at hlj hcj ⊢
 obtain ⟨p1, hp1⟩ : ∃ p, p = rd i1 x := ⟨_, rfl⟩
 obtain ⟨p2, hp2⟩ : ∃ p, p = rd i2 y := ⟨_, rfl⟩
 rw [← hp1, ← hp2] at HONE HX7
 clear haj hri hCi hCj hxi hyj hone hm1 hg1 hm2 hl2 hg2 ha2 e0 hB6 hlie hlje hp1 hp2 e2 e5 hx0 hx1 hy0 hy1
 go_wp2_with fail
 refine start_ (n := 11) (S := fun w' => w'.cell? (ai.add x.toNat) = some (.int .i64 p1) ∧ w'.cell? (aj.add y.toNat) = some (.int .i64 p2)) (ds := []) (bm_ 11 0) (by kernel_rfl) rfl rfl ⟨HX7.out.1, HX7.out.2⟩ (fun hHeld => ?_)
 refine pz_ 0 73 11 1 ?_
 refine pz_ 1 74 11 3 ?_
 refine pz_ 2 75 11 7 ?_
 refine pz_ 4 77 11 23 ?_
 refine pz_ 5 78 11 55 ?_
 refine pz_ 6 79 11 119 ?_
 refine tz_ 3 76 11 127 hHeld ?_
 refine tz_ 7 80 11 255 hHeld ?_
 refine pz_ 8 81 11 511 ?_
 refine pz_ 9 8 11 1023 ?_
 refine pz_ 10 9 11 2047 ?_
 refine dz_ ?_

 go_wp2_with fail
 go_ret2
 rw [HONE.out]
 exact ⟨rfl, B7.out.drew⟩
theorem addTo_le (most : Int) (l : List S132) : ∀ (gs gs' : List (List S123)) (ids ids' : List Int), addTo most (gs, ids) l = some (gs', ids') → manyOf gs' ≤ manyOf gs + tcount l ∧ gs'.length ≤ gs.length + l.length ∧ ids'.length = ids.length + tcount l := by
 induction l with
 | nil =>
  intro gs gs' ids ids' h
  simp only [addTo, Option.some.injEq, Prod.mk.injEq] at h
  obtain ⟨rfl, rfl⟩ := h
  exact ⟨by simp [tcount], by simp, by simp [tcount]⟩
 | cons r l ih =>
  intro gs gs' ids ids' h
  have ht : tcount (r :: l) = r.f0.length + tcount l := by simp [tcount]
  simp only [addTo] at h
  cases hs : addStep most (gs, ids) r with
  | none => rw [hs] at h; cases h
  | some st =>
   obtain ⟨gs1, ids1⟩ := st
   rw [hs] at h
   simp only [Option.bind_some] at h
   obtain ⟨h1, h2, h3⟩ := ih gs1 gs' ids1 ids' h
   unfold addStep at hs
   dsimp only at hs
   cases hf : findK gs (ownG ids r) with
   | some i =>
    rw [hf] at hs
    simp only [Option.some.injEq, Prod.mk.injEq] at hs
    obtain ⟨rfl, rfl⟩ := hs
    rw [List.length_append, idsFrom_length, ownG_length] at h3
    exact ⟨by omega, by simp; omega, by omega⟩
   | none =>
    rw [hf] at hs
    dsimp only at hs
    split at hs
    ·cases hs
    ·simp only [Option.some.injEq, Prod.mk.injEq] at hs
     obtain ⟨rfl, rfl⟩ := hs
     rw [manyOf_snoc, ownG_length] at h1
     rw [List.length_append, idsFrom_length, ownG_length] at h3
     rw [List.length_append, List.length_singleton] at h2
     exact ⟨by omega, by simp; omega, by omega⟩
theorem oneM_ok {a b : List S132} {x y : Int} (ca : Clo a) (cb : Clo b) (h : 0 ≤ x ∧ x < tcount a ∧ 0 ≤ y ∧ y < tcount b) : oneM a b x y = (rd (oneIds a b).1 x == rd (oneIds a b).2 y, 0) := by
 unfold oneM
 rw [if_pos ⟨ca, cb⟩, if_pos h]
/-- The ids of one list, in a table of its own. -/
theorem oneIds_self {l : List S132} (ht : tcount l ≤ 1048576) : ∃ g1 i1, addTo 9223372036854775807 ([], []) l = some (g1, i1) ∧ oneIds l l = (i1, i1) := by
 obtain ⟨g1, i1, h1, _, _, _⟩ := addTo_room 9223372036854775807 l [] [] (by simp [manyOf]; omega)
 have h2 := addTo_again 9223372036854775807 9223372036854775807 l [] g1 i1 h1 Dist.nil
 refine ⟨g1, i1, h1, ?_⟩
 unfold oneIds
 rw [h1]
 dsimp only
 rw [h2]
theorem one_calls' (A1 : Option Addr) (c1 : Nat) (a : List S132) (A2 : Option Addr) (c2 : Nat) (b : List S132) (x y : Int) (w : World) (ha : LA w A1 c1 a) (hb : LA w A2 c2 b) (htab : Lib.TabBelow Tryz.prog w.heap.size w "internal/strconv.uint64pow10" .u64 Lib.pow10Tab) :
  Calls Tryz.prog 165 #[.slice A1 a.length c1, .slice A2 b.length c2, .int .i64 x, .int .i64 y] w fun e w' => e = .returned (.tuple #[.bool (oneM a b x y).1, .int .i64 (oneM a b x y).2]) ∧ Below w.heap.size w w' :=
 one_calls A1 c1 a A2 c2 b x y w ha.C ha.cap hb.C hb.cap (sok_all (by have := ha.w; omega)) (sok_all (by have := hb.w; omega)) (rin_all (by have := ha.w; omega) ha.inn) (rin_all (by have := hb.w; omega) hb.inn) (by have := ha.w; omega) (by have := hb.w; omega) (by have := ha.w; omega) (by have := hb.w; omega) htab
theorem same_calls (A : Option Addr) (c : Nat) (l : List S132) (x y : Int) (w : World) (hl : LA w A c l) (htab : Lib.TabBelow Tryz.prog w.heap.size w "internal/strconv.uint64pow10" .u64 Lib.pow10Tab) (b : Bool) (k : Int) (hone : oneM l l x y = (b, k)) :
  Calls Tryz.prog 152 #[.slice A l.length c, .int .i64 x, .int .i64 y] w fun e w' => e = .returned (.tuple #[.bool b, .int .i64 k]) ∧ Below w.heap.size w w' := by
 have K := Aside0.mk (one_calls' A c l A c l x y w hl hl htab)
 rw [hone] at K
 clear hl htab hone
 go_enter Tryz.func152, Tryz.ntmps152
 go_wp2_with fail
 refine K.out.mono ?_
 rintro e w1 ⟨rfl, hb1⟩
 have HB1 := Aside0.mk hb1
 clear hb1 K
 go_wp2_with fail
 go_ret2
 exact ⟨rfl, HB1.out⟩
theorem CloOut.yes {l : List S132} {n e : Int} (h : CloOut l n e) (hc : Clo l) : n = 0 ∧ e = 0 := by
 rcases h with ⟨_, h1, h2⟩ | ⟨m, hb, _⟩
 ·exact ⟨h1, h2⟩
 ·exact absurd hc hb.not
theorem CloOut.no {l : List S132} {n e : Int} (h : CloOut l n e) (hc : ¬ Clo l) : e = 50 := by
 rcases h with ⟨h0, _⟩ | ⟨m, _, _, h2⟩
 ·exact absurd h0 hc
 ·exact h2
/-- What an abstract heap type stands right below. -/
def upH (h : Int) : Int := if h = -2 then -1 else if h = -4 then -3 else if h = -6 then -5 else if h = -7 then -6 else if h = -8 then -6 else if h = -9 then -6 else if h = -12 then -11 else 0
def famH (h : Int) : Int := if h = -1 then -1 else if h = -2 then -1 else if h = -3 then -3 else if h = -4 then -3 else if h = -11 then -11 else if h = -12 then -11 else -5
def absL (x b : Int) : Bool := decide (x = b) || decide (upH x = b) || decide (upH (upH x) = b)
def absM (a b : Int) : Bool := if a = -10 then decide (b = -10) || decide (famH b = -5) else absL a b
theorem abs_cases {h : Int} (h0 : -12 ≤ h) (h1 : h ≤ 0) : h = 0 ∨ h = -1 ∨ h = -2 ∨ h = -3 ∨ h = -4 ∨ h = -5 ∨ h = -6 ∨ h = -7 ∨ h = -8 ∨ h = -9 ∨ h = -10 ∨ h = -11 ∨ h = -12 := by omega
theorem upH_gt {h : Int} (h0 : -12 ≤ h) (h1 : h < 0) : h < upH h ∧ upH h ≤ 0 ∧ upH h ≠ -10 ∧ -12 ≤ upH h := by
 rcases abs_cases h0 (by omega) with rfl | rfl | rfl | rfl | rfl | rfl | rfl | rfl | rfl | rfl | rfl | rfl | rfl <;> simp [upH] at * 
theorem upH3 {h : Int} (h0 : -12 ≤ h) (h1 : h ≤ 0) : upH (upH (upH h)) = 0 := by
 rcases abs_cases h0 h1 with rfl | rfl | rfl | rfl | rfl | rfl | rfl | rfl | rfl | rfl | rfl | rfl | rfl <;> simp [upH]
theorem absL_up {x b : Int} (h0 : -12 ≤ x) (h1 : x ≤ 0) (hb : b < 0) (hx : x ≠ b) : absL (upH x) b = absL x b := by
 unfold absL
 rw [upH3 h0 h1]
 have e1 : decide (x = b) = false := by simp [hx]
 have e2 : decide ((0 : Int) = b) = false := by simp; omega
 rw [e1, e2]
 simp
theorem up_index (h : Int) (h0 : -12 ≤ h) (h1 : h ≤ 0) (w : World) : (Instr.index 249 (.agg #[.int .i64 0, .int .i64 0, .int .i64 (-1), .int .i64 0, .int .i64 (-3), .int .i64 0, .int .i64 (-5), .int .i64 (-6), .int .i64 (-6), .int .i64 (-6), .int .i64 0, .int .i64 0, .int .i64 (-11)]) (.int .i64 (-h))).run Tryz.prog w = .ok (.int .i64 (upH h)) w := by
 rcases abs_cases h0 h1 with rfl | rfl | rfl | rfl | rfl | rfl | rfl | rfl | rfl | rfl | rfl | rfl | rfl <;>
  simp [Instr.index, Sem.run_bind, Value.cells, upH, go_sem]
theorem sup_calls (h : Int) (w : World) (h0 : -12 ≤ h) (h1 : h ≤ 0) : Calls Tryz.prog 179 #[.int .i64 h] w fun e w' => e = .returned (.int .i64 (upH h)) ∧ w' = w := by
 have hi := up_index h h0 h1
 have hw : wrap64 (-h) = -h := by unfold wrap64; omega
 go_enter Tryz.func179, Tryz.ntmps179
 go_wp2_with fail
 go_ret
 exact ⟨rfl, rfl⟩
theorem sfamily_calls (h : Int) (w : World) (h0 : -12 ≤ h) (h1 : h < 0) : Calls Tryz.prog 178 #[.int .i64 h] w fun e w' => e = .returned (.int .i64 (famH h)) ∧ w' = w := by
 go_enter Tryz.func178, Tryz.ntmps178
 go_wp2_with fail
 go_loopw [0] (fun v W => ∃ (x : Int), v = .int .i64 x ∧ -12 ≤ x ∧ x < 0 ∧ famH x = famH h ∧ W = w) (fun v _ => (-(intOf v)).toNat)
 case atStart => exact ⟨h, rfl, h0, h1, rfl, rfl⟩
 case round =>
  clear h0 h1
  obtain ⟨x, rfl, h0, h1, hf, rfl⟩ := hrel
  have up : ∀ y, -12 ≤ y → y ≤ 0 → Calls Tryz.prog 179 #[.int .i64 y] wr fun e w' => e = .returned (.int .i64 (upH y)) ∧ w' = wr := fun y a b => sup_calls y wr a b
  rcases abs_cases h0 (by omega) with rfl | rfl | rfl | rfl | rfl | rfl | rfl | rfl | rfl | rfl | rfl | rfl | rfl
  ·exact absurd h1 (by decide)
  all_goals clear h0 h1
  all_goals go_wp2_with (refine (up _ (by decide) (by decide)).mono ?_; rintro e w' ⟨rfl, rfl⟩)
  all_goals first
   | (go_ret; exact ⟨by rw [← hf]; rfl, rfl⟩)
   | (go_roundw
      case rel => exact ⟨_, rfl, by decide, by decide, by rw [← hf]; rfl, trivial⟩
      case measure => decide)
theorem sabstract_calls (a b : Int) (w : World) (a0 : -12 ≤ a) (a1 : a < 0) (b0 : -12 ≤ b) (b1 : b < 0) : Calls Tryz.prog 167 #[.int .i64 a, .int .i64 b] w fun e w' => e = .returned (.bool (absM a b)) ∧ w' = w := by
 go_enter Tryz.func167, Tryz.ntmps167
 by_cases h10 : a = -10
 ·subst h10
  have hf := sfamily_calls b w b0 b1
  by_cases hb : b = -10
  ·subst hb
   go_wp2_with fail
   go_ret
   exact ⟨by simp [absM], rfl⟩
  ·by_cases hq : famH b = -5
   ·go_wp2_with (refine hf.mono ?_; rintro e w' ⟨rfl, rfl⟩)
    go_ret
    exact ⟨by simp [absM, hq], rfl⟩
   ·go_wp2_with (refine hf.mono ?_; rintro e w' ⟨rfl, rfl⟩)
    go_ret
    exact ⟨by simp [absM, hq, hb], rfl⟩
 ·have em : absM a b = absL a b := by unfold absM; rw [if_neg h10]
  have e10 : (a == -10) = false := by simp [h10]
  go_wp2_with fail
  go_loopw [0] (fun v W => ∃ (x : Int), v = .int .i64 x ∧ -12 ≤ x ∧ x ≤ 0 ∧ absL x b = absL a b ∧ W = w) (fun v _ => (-(intOf v)).toNat)
  case atStart => exact ⟨a, rfl, a0, by omega, rfl, rfl⟩
  case round =>
   obtain ⟨x, rfl, x0, x1, hf, rfl⟩ := hrel
   have up := sup_calls x wr x0 x1
   by_cases hx : x = 0
   ·subst hx
    have hb0 : ¬ ((0 : Int) = b) := by omega
    go_wp2_with fail
    go_ret
    refine ⟨?_, rfl⟩
    rw [em, ← hf]
    simp [absL, upH, hb0]
   ·by_cases hxb : x = b
    ·subst hxb
     go_wp2_with fail
     go_ret
     refine ⟨?_, rfl⟩
     rw [em, ← hf]
     simp [absL]
    ·have hg := upH_gt x0 (by omega)
     have hl := absL_up x0 x1 b1 hxb
     have e1 : (x != 0) = true := by simp [hx]
     have e2 : (x != b) = true := by simp [hxb]
     have e3 : (x != 0 && x != b) = true := by rw [e1, e2]; rfl
     go_wp2_with (refine up.mono ?_; rintro e w' ⟨rfl, rfl⟩)
     go_roundw
     case rel => exact ⟨_, rfl, hg.2.2.2, hg.2.1, by rw [hl]; exact hf, trivial⟩
     case measure => simp [intOf]; omega
/-- All types of a list. -/
def flat (l : List S132) : List S123 := l.flatMap (fun r => r.f0)
theorem flat_length (l : List S132) : (flat l).length = tcount l := by
 unfold flat tcount
 rw [List.length_flatMap]
theorem flat_get {l : List S132} {j : Nat} {r : S132} (hr : l[j]? = some r) {o : Nat} (ho : o < r.f0.length) : (flat l)[tcount (l.take j) + o]? = r.f0[o]? := by
 have hj := List.getElem?_eq_some_iff.1 hr
 obtain ⟨hjl, he⟩ := hj
 have e : l = l.take j ++ r :: l.drop (j + 1) := by
  subst he
  rw [List.getElem_cons_drop, List.take_append_drop]
 have e2 : flat l = flat (l.take j) ++ (r.f0 ++ flat (l.drop (j + 1))) := by
  conv => lhs; rw [e]
  unfold flat
  rw [List.flatMap_append, List.flatMap_cons]
 rw [e2, List.getElem?_append_right (by rw [flat_length]; omega), flat_length, Nat.add_sub_cancel_left, List.getElem?_append_left ho]
def tyAt (l : List S132) (n : Int) : S123 := rd_T123 (flat l) n
/-- Two types of a list are one. -/
def SameT (l : List S132) (x y : Nat) : Prop := (oneM l l (x : Int) (y : Int)).1 = true
/-- Numbers that two types share just if they are one. -/
def IdsOk (l : List S132) (I : List Int) : Prop := I.length = (flat l).length ∧ ∀ x y : Nat, x < (flat l).length → y < (flat l).length → (I[x]? = I[y]? ↔ SameT l x y)
structure Ctx (l : List S132) (cb : Nat) (W : World) : Prop where
 ex : ∃ (L : Value) (Ai : Option Addr) (ci : Nat) (Aa : Option Addr) (ca : Nat) (I : List Int), W.heap[cb]? = some (.cells #[L, .slice Ai I.length ci, .slice Aa (flat l).length ca] 178 (0, 0)) ∧ I.length ≤ ci ∧ (flat l).length ≤ ca ∧ Kd.C (Kd.int .i64) W Ai I.length I ∧ Kd.C k123 W Aa (flat l).length (flat l) ∧ IdsOk l I
theorem Ctx.below {l : List S132} {cb : Nat} {W W' : World} (h : Ctx l cb W) (hb : Below W.heap.size W W') : Ctx l cb W' := by
 obtain ⟨L, Ai, ci, Aa, ca, I, h1, h2, h3, h4, h5, h6⟩ := h.ex
 exact ⟨L, Ai, ci, Aa, ca, I, blk_below h1 hb, h2, h3, Kd.C_below h4 hb, Kd.C_below h5 hb, h6⟩
def isM (l : List S132) (h : Int) : Bool := decide (-12 ≤ h) && decide (h < ((flat l).length : Int))
def kindM (k : Int) : Int := if k = 1 then -1 else if k = 2 then -8 else -9
def kindOf (l : List S132) (n : Int) : Int := kindM (tyAt l n).f2.f0
theorem kindM_in (k : Int) : kindM k = -1 ∨ kindM k = -8 ∨ kindM k = -9 := by unfold kindM; split; (· simp); split <;> simp
theorem sis_calls (l : List S132) (cb : Nat) (h : Int) (w : World) (hc : Ctx l cb w) : Calls Tryz.prog 166 #[.pointer (some ⟨cb, 0, none⟩), .int .i64 h] w fun e w' => e = .returned (.bool (isM l h)) ∧ w' = w := by
 obtain ⟨L, Ai, ci, Aa, ca, I, h1, h2, h3, h4, h5, h6⟩ := hc.ex
 have x2 : w.cell? ⟨cb, 2, none⟩ = some (.slice Aa (flat l).length ca) := (blk_cell h1 2).trans rfl
 clear h1 h2 h3 h4 h5 h6 hc
 by_cases g : -12 ≤ h
 ·go_enter Tryz.func166, Tryz.ntmps166
  go_wp2_with fail
  go_ret
  exact ⟨by simp [isM, g], rfl⟩
 ·go_enter Tryz.func166, Tryz.ntmps166
  go_wp2_with fail
  go_ret
  exact ⟨by simp [isM]; omega, rfl⟩
theorem skind_calls (l : List S132) (cb : Nat) (n : Int) (w : World) (hc : Ctx l cb w) (n0 : 0 ≤ n) (n1 : n < ((flat l).length : Int)) : Calls Tryz.prog 168 #[.pointer (some ⟨cb, 0, none⟩), .int .i64 n] w fun e w' => e = .returned (.int .i64 (kindOf l n)) ∧ w' = w := by
 obtain ⟨L, Ai, ci, Aa, ca, I, h1, h2, h3, h4, h5, h6⟩ := hc.ex
 have x2 : w.cell? ⟨cb, 2, none⟩ = some (.slice Aa (flat l).length ca) := (blk_cell h1 2).trans rfl
 obtain ⟨ae, A1', c1, A3, c3, A4, c4, A5, c5, ea, d0, d1, d2, d3, d4, d5, m1, r1, m3, r3, m4, r4, m5, r5⟩ := at_T123 h5 n n0 n1
 subst ea
 have E : Aside0 (kindOf l n = kindM (rd_T123 (flat l) n).f2.f0) := ⟨rfl⟩
 obtain ⟨k, hk⟩ : ∃ k, k = (rd_T123 (flat l) n).f2.f0 := ⟨_, rfl⟩
 rw [← hk] at d2 E
 clear h1 h2 h3 h4 h5 h6 hc r1 r3 r4 r5 d0 d1 d3 d4 d5 m1 m3 m4 m5 hk
 by_cases g1 : k = 1
 ·subst g1
  go_enter Tryz.func168, Tryz.ntmps168
  go_wp2_with fail
  go_ret
  exact ⟨by rw [E.out]; rfl, rfl⟩
 ·by_cases g2 : k = 2
  ·subst g2
   go_enter Tryz.func168, Tryz.ntmps168
   go_wp2_with fail
   go_ret
   exact ⟨by rw [E.out]; rfl, rfl⟩
  ·go_enter Tryz.func168, Tryz.ntmps168
   go_wp2_with fail
   go_ret
   exact ⟨by rw [E.out]; simp [kindM, g1, g2], rfl⟩
/-- Elements that are lent out of a world that was: a row of one's own whose elements point at memory of others. -/
def kLent {α : Type} (d : Kd α) (w0 : World) : Kd α where
 sz := d.sz
 E := []
 K := fun _ x cs => d.K w0 x cs
 M := fun _ _ _ x cs => d.K w0 x cs
 K_len := fun h => d.K_len h
 K_one := fun h => d.K_one h
 K_below := fun _ h => h
 K_of_M := fun h => h
 M_mono := fun _ h => h
 M_bound := fun h => h
 M_move := fun _ h => h
 M_lower := fun _ h => h
theorem kLent_C {α : Type} {d : Kd α} {w0 W : World} {A : Option Addr} {n : Nat} {xs : List α} (h : Kd.C (kLent d w0) W A n xs) (hb : Below w0.heap.size w0 W) : Kd.C d W A n xs :=
 ReadsRow.imp_ (R := d.K w0) (size := d.sz) h (Below.refl _ _) (fun _ _ hp => d.K_below hb hp)
theorem flat_succ {l : List S132} {j : Nat} {r : S132} (h : l[j]? = some r) : flat (l.take (j + 1)) = flat (l.take j) ++ r.f0 := by
 unfold flat
 rw [List.take_add_one, h, List.flatMap_append]
 simp
theorem sameT_iff {l : List S132} (hc : Clo l) {g1 : List (List S123)} {i1 : List Int} (h : oneIds l l = (i1, i1)) {x y : Nat} (hx : x < tcount l) (hy : y < tcount l) : SameT l x y ↔ rd i1 x = rd i1 y := by
 unfold SameT
 rw [oneM_ok hc hc ⟨by omega, by omega, by omega, by omega⟩, h]
 simp
theorem idsOk_added {l : List S132} (hc : Clo l) (ht : tcount l ≤ 1048576) {m : Int} {g : List (List S123)} {I : List Int} (h : addTo m ([], []) l = some (g, I)) : IdsOk l I := by
 obtain ⟨g1, i1, h1, h2⟩ := oneIds_self ht
 have hlen : I.length = tcount l := by have := (addTo_le m l [] g [] I h).2.2; simpa using this
 refine ⟨by rw [flat_length]; exact hlen, fun x y hx hy => ?_⟩
 rw [flat_length] at hx hy
 rw [sameT_iff (g1 := g1) hc h2 hx hy, ← ids_alike hc h h1 Dist.nil Dist.nil x y ⟨by omega, by omega⟩ ⟨by omega, by omega⟩]
 obtain ⟨u, e1⟩ : ∃ u, I[x]? = some u := ⟨_, List.getElem?_eq_getElem (show x < I.length by omega)⟩
 obtain ⟨v, e2⟩ : ∃ v, I[y]? = some v := ⟨_, List.getElem?_eq_getElem (show y < I.length by omega)⟩
 rw [rd_eq I x u (by rw [Int.toNat_natCast]; exact e1), rd_eq I y v (by rw [Int.toNat_natCast]; exact e2), e1, e2]
 simp
/-- The numbers of the first k types are the least types that they are one with. -/
def IP (i1 : List Int) (n : Nat) (I : List Int) (k : Nat) : Prop := I.length = n ∧ ∀ x : Nat, x < k → ∃ q : Nat, q ≤ x ∧ I[x]? = some (q : Int) ∧ rd i1 q = rd i1 x ∧ ∀ j : Nat, j < q → rd i1 j ≠ rd i1 x
theorem IP.own {i1 I : List Int} {n k : Nat} (h : IP i1 n I k) (hk : k < n) (hj : ∀ j : Nat, j < k → rd i1 j ≠ rd i1 k) : IP i1 n (I.set k (k : Int)) (k + 1) := by
 refine ⟨by rw [List.length_set]; exact h.1, fun x hx => ?_⟩
 by_cases e : x = k
 ·subst e
  exact ⟨x, Nat.le_refl _, by rw [List.getElem?_set_self (by have := h.1; omega)], rfl, hj⟩
 ·obtain ⟨q, h1, h2, h3, h4⟩ := h.2 x (by omega)
  exact ⟨q, h1, by rw [List.getElem?_set_ne (by omega)]; exact h2, h3, h4⟩
theorem IP.other {i1 I : List Int} {n k q : Nat} (h : IP i1 n I k) (hk : k < n) (hq : q < k) (ht : rd i1 q = rd i1 k) (hj : ∀ j : Nat, j < q → rd i1 j ≠ rd i1 k) : I[q]? = some (q : Int) ∧ IP i1 n ((I.set k (k : Int)).set k (q : Int)) (k + 1) := by
 obtain ⟨q', g1, g2, g3, g4⟩ := h.2 q hq
 have e : q' = q := by
  rcases Nat.lt_or_ge q' q with hlt | hge
  ·exact absurd (g3.trans ht) (hj q' hlt)
  ·omega
 subst e
 refine ⟨g2, by rw [List.length_set, List.length_set]; exact h.1, fun x hx => ?_⟩
 by_cases e : x = k
 ·subst e
  exact ⟨q', by omega, by rw [List.getElem?_set_self (by rw [List.length_set]; have := h.1; omega)], ht, hj⟩
 ·obtain ⟨q, h1, h2, h3, h4⟩ := h.2 x (by omega)
  exact ⟨q, h1, by rw [List.getElem?_set_ne (by omega), List.getElem?_set_ne (by omega)]; exact h2, h3, h4⟩
theorem IP.ok {l : List S132} (hc : Clo l) {g1 : List (List S123)} {i1 I : List Int} (h1 : oneIds l l = (i1, i1)) (h : IP i1 (tcount l) I (tcount l)) : IdsOk l I := by
 refine ⟨by rw [flat_length]; exact h.1, fun x y hx hy => ?_⟩
 rw [flat_length] at hx hy
 rw [sameT_iff (g1 := g1) hc h1 hx hy]
 obtain ⟨p, a1, a2, a3, a4⟩ := h.2 x hx
 obtain ⟨q, b1, b2, b3, b4⟩ := h.2 y hy
 rw [a2, b2]
 constructor
 ·intro e
  have e' : p = q := by injection e with e; omega
  subst e'
  exact a3.symm.trans b3
 ·intro e
  rcases Nat.lt_trichotomy p q with hlt | rfl | hlt
  ·exact absurd (a3.trans e) (b4 p hlt)
  ·rfl
  ·exact absurd (b3.trans e.symm) (a4 q hlt)
set_option maxHeartbeats 8000000 in
theorem ids_calls (A : Option Addr) (c : Nat) (l : List S132) (n : Nat) (w : World) (hl : LA w A c l) (hc : Clo l) (hn : n = tcount l) (htab : Lib.TabBelow Tryz.prog w.heap.size w "internal/strconv.uint64pow10" .u64 Lib.pow10Tab) :
  Calls Tryz.prog 121 #[.slice A l.length c, .int .i64 n] w fun e w' => ∃ v I, e = .returned v ∧ Kd.R (Kd.int .i64) 3 w' w.heap.size (fun _ => True) v I ∧ IdsOk l I ∧ Below w.heap.size w w' := by
 have HL := Aside0.mk hl
 have HC := Aside0.mk hc
 have HT := Aside0.mk htab
 have HN := Aside0.mk hn
 have htc := tcount_le_wL l
 have hw := hl.w
 have hn0 : n ≤ 1048576 := by omega
 have HTC : Aside0 (tcount l ≤ 1048576) := ⟨by omega⟩
 have HWL : Aside0 (wL l ≤ 1048576 ∧ l.length ≤ 1048576) := ⟨by omega, by omega⟩
 clear hl hc htab hn htc hw
 go_enter Tryz.func121, Tryz.ntmps121
 go_wp2_with fail
 refine (new_calls w HT.out).mono ?_
 rintro e w1 ⟨rfl, ht1, hb1⟩
 have B1 := Aside0.mk hb1
 have T1 := Aside0.mk ht1
 clear ht1 hb1
 go_wp2_with fail
 refine (tadd_calls w.heap.size (w.heap.size + 1) w.heap.size [] (.slice none 0 0) (.map []) A c l w1 T1.out B1.out.size (HL.out.below B1.out).C HL.out.cap (fun g' b' w' h1 h2 h3 => LR.of_C HL.out.C (fun W hW => (B1.out.trans (h1.mono B1.out.size)).trans (hW.bel.mono (Nat.le_refl _)))) (sok_all HWL.out.1) (rin_all HWL.out.1 HL.out.inn) HWL.out.1 HWL.out.2 (by simp [manyOf]) (by simp)).mono ?_
 intro e w2 hout
 unfold TAddOut at hout
 rcases hout with ⟨hnc, _⟩ | ⟨_, hout⟩
 ·exact absurd HC.out hnc
 ·cases hst : addTo 10000 ([], []) l with
  | some st =>
   obtain ⟨gs', I⟩ := st
   rw [hst] at hout
   obtain ⟨vi, v', b', D', rfl, _, hi, hf⟩ := hout
   have X : Aside0 (Kd.R (Kd.int .i64) 3 w2 w.heap.size (fun _ => True) vi I ∧ IdsOk l I ∧ Below w.heap.size w w2) := ⟨Kd.R_lower hi B1.out.size, idsOk_added HC.out HTC.out hst, B1.out.trans hf.bel⟩
   clear hi hf hst
   obtain ⟨Ai, ci, ev⟩ := Kd.R_slice X.out.1
   subst ev
   go_wp2_with fail
   go_ret
   exact ⟨_, I, rfl, X.out.1, X.out.2.1, X.out.2.2⟩
  | none =>
   rw [hst] at hout
   obtain ⟨⟨n2, rfl⟩, hf⟩ := hout
   have B2 : Aside0 (Below w.heap.size w w2) := ⟨B1.out.trans hf.bel⟩
   clear hf hst
   go_wp2_with (at_make; refine Kd.R_make (Kd.int .i64) (w0 := w) w.heap.size 3 rfl rfl 23 (.tmp 23) (.tmp 23) rfl (n : Int) rfl rfl Tryz.underlying23 (.int .i64 0) 8 info3 rfl (by decide) (by decide) 0 (ok := fun _ => True) (okp := fun _ => False) rfl (fun _ h => h.elim) trivial (by omega) (by simp; omega) B2.out B2.out.size ?_; intro v3 w3 ho hb hg hat; simp only [Int.toNat_natCast] at ho; obtain ⟨A3, c3, ev⟩ := Kd.R_slice ho; rw [List.length_replicate] at ev; subst ev; have R3 := Aside0.mk ho; have B3 := Aside0.mk hb; clear ho hb hg hat)
   obtain ⟨g1, i1, _, h2⟩ := oneIds_self (l := l) HTC.out
   have HO := Aside0.mk h2
   clear h2
   go_loopw [27] (fun i W => ∃ (k : Nat) (I : List Int), i = .int .i64 k ∧ k ≤ n ∧ Kd.R (Kd.int .i64) 3 W w.heap.size (fun _ => True) (.slice A3 n c3) I ∧ IP i1 n I k ∧ Below w.heap.size w W) (fun i _ => n - (intOf i).toNat)
   case atStart => exact ⟨0, _, rfl, Nat.zero_le _, R3.out, ⟨by simp, fun x hx => by omega⟩, B3.out⟩
   case round =>
    obtain ⟨k, I, rfl, hk, hr, hip, hb⟩ := hrel
    have R4 := Aside0.mk hr
    have I4 := Aside0.mk hip
    have B4 := Aside0.mk hb
    clear hr hip hb R3 B3 B2 B1 T1
    have k0 : (0 : Int) ≤ (k : Int) := Int.natCast_nonneg k
    by_cases hlk : k < n
    ·have hIl : I.length = n := I4.out.1
     obtain ⟨inn, hown⟩ := Kd.R_own R4.out
     obtain ⟨gb, cap, ev, _, _⟩ := hown.form (by omega)
     injection ev with ev1 ev2 ev3
     subst ev1 ev3
     clear hown ev2
     have kl : (k : Int) < (n : Int) := by omega
     have hr' := R4.out
     rw [← hIl] at hr'
     obtain ⟨p1, p2⟩ := Kd.R_cell (0 : Int) hr' (k : Int) k0 (by omega)
     rw [Int.toNat_natCast] at p1 p2
     have hP := Kd.R_put hr' (k : Int) ((k : Int))
     rw [Int.toNat_natCast, hIl] at hP
     have R5 := Aside0.mk hP.1
     have B5 : Aside0 (Below w.heap.size w (wr.setCell ⟨gb, k, none⟩ (.int .i64 k))) := ⟨B4.out.trans (bel_of_grown hP.2 B4.out.size (fun k_ e_ => by injection e_ with e_; subst e_; exact ((Kd.R_bound R4.out).1 _ rfl).2.1))⟩
     clear hr' hP hIl
     go_wp2_with fail
     go_loopw [35] (fun i W => ∃ (q : Nat), i = .int .i64 q ∧ q ≤ k ∧ Kd.R (Kd.int .i64) 3 W w.heap.size (fun _ => True) (.slice (some ⟨gb, 0, none⟩) n c3) (I.set k (k : Int)) ∧ (∀ j : Nat, j < q → rd i1 j ≠ rd i1 k) ∧ Below w.heap.size w W) (fun i _ => k - (intOf i).toNat)
     case atStart => exact ⟨0, rfl, Nat.zero_le _, R5.out, fun j hj => by omega, B5.out⟩
     case round =>
      clear R5 B5 p1 p2
      obtain ⟨q, rfl, hq, hr, hjj, hb⟩ := hrel
      have R6 := Aside0.mk hr
      have J6 := Aside0.mk hjj
      have B6 := Aside0.mk hb
      clear hr hjj hb
      have q0 : (0 : Int) ≤ (q : Int) := Int.natCast_nonneg q
      by_cases hlq : q < k
      ·have qn : (q : Int) < (n : Int) := by omega
       have hone : oneM l l (k : Int) (q : Int) = (rd i1 k == rd i1 q, 0) := by
        have := HN.out
        rw [oneM_ok HC.out HC.out ⟨by omega, by omega, by omega, by omega⟩, HO.out]
       by_cases ht : rd i1 q = rd i1 k
       ·rw [ht, beq_self_eq_true] at hone
        obtain ⟨hqv, hnew⟩ := I4.out.other hlk hlq ht J6.out
        have N6 := Aside0.mk hnew
        have S6 := Aside0.mk (same_calls A c l (k : Int) (q : Int) wr (HL.out.below B6.out) (tab_mono (HT.out.on B6.out) B6.out.size) true 0 hone)
        clear hone hnew
        go_wp2_with fail
        refine S6.out.mono ?_
        rintro e w7 ⟨rfl, hb7⟩
        have hIl : (I.set k (k : Int)).length = n := by rw [List.length_set]; exact I4.out.1
        have R7 := Kd.R_below R6.out hb7
        have hr' := R7
        rw [← hIl] at hr'
        obtain ⟨p1, _⟩ := Kd.R_cell (0 : Int) hr' (q : Int) q0 (by omega)
        obtain ⟨p3, p4⟩ := Kd.R_cell (0 : Int) hr' (k : Int) k0 (by omega)
        have hval : rdOf (0 : Int) (I.set k (k : Int)) (q : Int) = (q : Int) := by
         unfold rdOf
         rw [Int.toNat_natCast, List.getD_eq_getElem?_getD, List.getElem?_set_ne (by omega), hqv]
         rfl
        rw [Int.toNat_natCast] at p1 p3 p4
        rw [hval] at p1
        have hP := Kd.R_put hr' (k : Int) ((q : Int))
        rw [Int.toNat_natCast, hIl] at hP
        have R8 := Aside0.mk hP.1
        have B7 : Aside0 (Below w.heap.size w w7) := ⟨B6.out.trans (hb7.mono B6.out.size)⟩
        have B8 : Aside0 (Below w.heap.size w (w7.setCell ⟨gb, k, none⟩ (.int .i64 q))) := ⟨B7.out.trans (bel_of_grown hP.2 B7.out.size (fun k_ e_ => by injection e_ with e_; subst e_; exact ((Kd.R_bound R7).1 _ rfl).2.1))⟩
        clear hr' hP hIl hval R7 hb7 S6 hqv
        go_wp2_with fail
        go_roundw
        case rel => exact ⟨k + 1, _, by go_num, by omega, R8.out, N6.out, B8.out⟩
        case measure => simp [intOf]; omega
       ·have hf : (rd i1 k == rd i1 q) = false := by simp [Ne.symm ht]
        rw [hf] at hone
        have S6 := Aside0.mk (same_calls A c l (k : Int) (q : Int) wr (HL.out.below B6.out) (tab_mono (HT.out.on B6.out) B6.out.size) false 0 hone)
        clear hone hf
        go_wp2_with fail
        refine S6.out.mono ?_
        rintro e w7 ⟨rfl, hb7⟩
        have B7 : Aside0 (Below w.heap.size w w7) := ⟨B6.out.trans (hb7.mono B6.out.size)⟩
        have R7 := Aside0.mk (Kd.R_below R6.out hb7)
        clear hb7 S6
        go_wp2_with fail
        go_roundw
        case rel => exact ⟨q + 1, by go_num, by omega, R7.out, fun j hj => (Nat.lt_or_ge j q).elim (fun h => J6.out j h) (fun h => by have e : j = q := (by omega); rw [e]; exact ht), B7.out⟩
        case measure => simp [intOf]; omega
      ·obtain rfl : q = k := by omega
       have N6 := Aside0.mk (I4.out.own hlk J6.out)
       clear hq hlq
       go_wp2_with fail
       go_roundw
       case rel => exact ⟨q + 1, _, by go_num, by omega, R6.out, N6.out, B6.out⟩
       case measure => simp [intOf]; omega
    ·obtain rfl : k = n := by omega
     clear hk hlk
     go_wp2_with fail
     go_ret
     refine ⟨_, I, rfl, R4.out, IP.ok HC.out (g1 := g1) HO.out ?_, B4.out⟩
     have := I4.out
     rw [HN.out] at this
     exact this
end Go.Proofs.YtohlmkcgempdlaaGreatDoor.Cn
