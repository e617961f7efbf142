/- Parts of the proof of subMeets_holds (15 of 20): what it says and shows stands at its declarations. -/
import Derived.Test.YtfgglniigeagdaaDoorZSm14
import Derived.Laws.ResultCell
import Derived.Maps.RangeWalk
import Derived.Maps.Ext
import Derived.Sort.MapsRangeIn
import Derived.LoopTactic
namespace Go.Proofs.YtfgglniigeagdaaDoor.Cn
set_option linter.unusedSimpArgs false
set_option linter.unusedVariables false
open Go.RowKit Go.Maps Go.Proofs.YtfgglniigeagdaaDoorW.PrintWords Go.Proofs.YtfgglniigeagdaaDoorW.PrintLast Go.Proofs.YtfgglniigeagdaaDoorW.PrintMore Go.Proofs.YtfgglniigeagdaaDoor.QD
set_option maxRecDepth 100000 in
theorem none_made (g : Nat) (w : World) (h : w.cell? ⟨g, 3, none⟩ = some (.bool true)) : Calls Tryd.prog 43 #[.pointer (some ⟨g, 0, none⟩)] w fun e w' => e = .returned (.bool false) ∧ w' = w := by
  go_enter Tryd.func43, Tryd.ntmps43
  go_wp2_with fail
  go_ret
  exact ⟨rfl, rfl⟩
theorem new_tb (w : World) (htab : Lib.TabBelow Tryd.prog w.heap.size w "internal/strconv.uint64pow10" .u64 Lib.pow10Tab) : TB w.heap.size (w.heap.size + 1) 47 [.bool true] (fun _ => True) [] (.slice none 0 0) w.heap.size (.map []) ((w.alloc (.map #[] 0)).alloc (.cells #[.slice none 0 0, .map (some w.heap.size), .int .i64 0, .bool true] 47)) where
  box := by have h := blk_new (w.alloc (.map #[] 0)) (.cells #[.slice none 0 0, .map (some w.heap.size), .int .i64 0, .bool true] 47); rw [World.size_alloc] at h; exact h
  row := Kd.R_nil _ _ _ _ _
  map := (World.ownsMap_made w _ _ _).alloc _
  pm := PM.nil
  hg := Nat.le_succ _
  hb := Nat.le_refl _
  tab := htab.on (((Below.refl _ _).alloc (Nat.le_refl _) _).alloc (by simp) _)
set_option maxRecDepth 100000 in
theorem new_calls (w : World) (htab : Lib.TabBelow Tryd.prog w.heap.size w "internal/strconv.uint64pow10" .u64 Lib.pow10Tab) :
    Calls Tryd.prog 18 #[] w fun e w' => e = .returned (.pointer (some ⟨w.heap.size + 1, 0, none⟩)) ∧ TB w.heap.size (w.heap.size + 1) 47 [.bool true] (fun _ => True) [] (.slice none 0 0) w.heap.size (.map []) w' ∧ Below w.heap.size w w' := by
  have HT := Aside0.mk htab
  clear htab
  have hmm := @run_makeMap Tryd.prog
  go_enter Tryd.func18, Tryd.ntmps18
  go_wp2_with fail
  go_ret
  refine ⟨rfl, ?_, ((Below.refl _ _).alloc (Nat.le_refl _) _).alloc (by simp) _⟩
  exact new_tb w HT.out
end Go.Proofs.YtfgglniigeagdaaDoor.Cn
namespace Go.Proofs.YtfgglniigeagdaaDoor.Cn
set_option linter.unusedSimpArgs false
set_option linter.unusedVariables false
open Go.RowKit Go.Maps Go.Proofs.YtfgglniigeagdaaDoorW.PrintWords Go.Proofs.YtfgglniigeagdaaDoorW.PrintLast Go.Proofs.YtfgglniigeagdaaDoorW.PrintMore Go.Proofs.YtfgglniigeagdaaDoor.QD
/-- The range's step: string keys, int elements. -/
theorem next_ranges_si {H : Type} {P : Program} (w : World) {ops : Array Oper} {rest : List Oper} {o : Oper} {a : Act} {Q : Exit → Act → World → Prop}
    (hg : o.guard = none) (it : Operand) (hop : o.op = Op.next it false) (k e : TypeId) (qe : IntKind) (K : Keyed P k) (hk : P.underlying k = some .string) (he : P.underlying e = some (.int qe))
    (b r n : Nat) (D : DataW H) (left : Lit → Bool) (cnt : Nat) (hit : a.eval it = .pointer (some ⟨r, 0, none⟩)) (h : w.ranges P k (plainElem P e) b r n D left cnt)
    (hDone : cnt = 0 → (∀ kl, left kl = false) → wpList P ops Q rest (a.put o.dst (.tuple #[.bool false])) w)
    (hMore : ∀ (s : ByteArray) (c : Int) (w' : World) (cnt' : Nat), keyOf P k (.string s) = some (.string s.data.toList) → (Lit.int qe c).wf = true → left (.string s.data.toList) = true → (∀ zd, D.atKey (.string s.data.toList) zd = .lit (.int qe c)) → w'.ranges P k (plainElem P e) b r n D (fun z => left z && !z.sameKey (.string s.data.toList)) cnt' → cnt' < cnt →
      w.grownBy w' (some r) → w'.heap.size = w.heap.size → (Instr.entry (.pointer (some ⟨r, 0, none⟩))).run P w' = .ok (.tuple #[.string s, .int qe c]) w' → wpList P ops Q rest (a.put o.dst (.tuple #[.bool true, .string s, .int qe c])) w') :
    wpList P ops Q (o :: rest) a w :=
  wpList_next_ranges w hg it hop k K (plainElem P e) Value.string (Value.int qe) (fun key kl hkey => Maps.keyOf_string_inv hk hkey) (fun v y hv => by obtain ⟨c, rfl, _⟩ := plainElem_int_inv he hv; exact ⟨c, rfl⟩)
    b r n D left cnt hit h hDone (fun x c kl y w' cnt' hkey hlk hv hat hrg hlt hgr hsz hen => by
      obtain ⟨c', ec, ey, hwc⟩ := plainElem_int_inv he hv
      cases ec
      subst ey
      have hs : kl = .string x.data.toList := by
        simp [keyOf, hk, mapKey] at hkey
        exact hkey.2.symm
      subst hs
      exact hMore x c w' cnt' hkey hwc hlk hat hrg hlt hgr hsz hen)
/-- Behind the region that copies: the row of groups is copied, there is a new map (empty) and a new block. -/
structure CG (w0 : World) (B : Nat) (l : List (Int × List S53)) (v bm q : Option Value) (W : World) : Prop where
  bel : Below w0.heap.size w0 W
  row : ∀ v', v = some v' → Kd.R kFam 93 W B (fun _ => True) v' l
  map : ∀ u, bm = some u → ∃ k, u = .map (some k) ∧ W.heap[k]? = some (.map #[] 0) ∧ w0.heap.size ≤ k
  box : ∀ u, q = some u → ∃ k, u = .pointer (some ⟨k, 0, none⟩) ∧ W.heap[k]? = some (.cells #[.slice none 0 0, .map none, .int .i64 0] 45 (0, 0)) ∧ w0.heap.size ≤ k
section
variable {w0 W W' : World} {B : Nat} {l : List (Int × List S53)} {v bm q : Option Value}
theorem CG.start (w0 : World) (B : Nat) (l : List (Int × List S53)) : CG w0 B l none none none w0 := ⟨Below.refl _ _, (fun _ h => by cases h), (fun _ h => by cases h), (fun _ h => by cases h)⟩
theorem CG.below (h : CG w0 B l v bm q W) (hb : Below W.heap.size W W') : CG w0 B l v bm q W' :=
  ⟨h.bel.trans (hb.mono h.bel.size), fun v' e => Kd.R_below (h.row v' e) hb, fun u e => by obtain ⟨k, e1, e2, e3⟩ := h.map u e; exact ⟨k, e1, (hb.block k (Array.getElem?_eq_some_iff.1 e2).1).trans e2, e3⟩, fun u e => by obtain ⟨k, e1, e2, e3⟩ := h.box u e; exact ⟨k, e1, blk_below e2 hb, e3⟩⟩
theorem CG.mm (h : CG w0 B l v none q W) : CG w0 B l v (some (.map (some W.heap.size))) q (W.alloc (.map #[] 0)) :=
  { h.below ((Below.refl _ _).alloc (Nat.le_refl _) _) with map := fun u e => ⟨W.heap.size, by injection e with e; exact e.symm, (MapKept.heap_alloc W _).1, h.bel.size⟩ }
theorem CG.al (h : CG w0 B l v bm none W) : CG w0 B l v bm (some (.pointer (some ⟨W.heap.size, 0, none⟩))) (W.alloc (.cells #[.slice none 0 0, .map none, .int .i64 0] 45)) :=
  { h.below ((Below.refl _ _).alloc (Nat.le_refl _) _) with box := fun u e => ⟨W.heap.size, by injection e with e; exact e.symm, blk_new W _, h.bel.size⟩ }
theorem CG.app (h : CG w0 B l none bm q W) {v' : Value} (hr : Kd.R kFam 93 W' B (fun _ => True) v' l) (hg : W.grownBy W' none) : CG w0 B l (some v') bm q W' :=
  { h.below (bel_of_grown hg (Nat.le_refl _) (by intro k e; cases e)) with row := fun u e => by injection e with e; subst e; exact hr }
theorem CG.cell (h : CG w0 B l v bm q W) {p : Addr} {u : Value} (hc : w0.cell? p = some u) : W.cell? p = some u := (h.bel.cell (World.block_lt_of_cell? w0 p hc)).trans hc
theorem CG.size (h : CG w0 B l v bm q W) : w0.heap.size ≤ W.heap.size := h.bel.size
end
theorem copy_step {ops : Array Oper} {o : Oper} {a : Act} {Q : Exit → Act → World → Prop} {Kc : Act → World → Prop} {w5 W : World} {B : Nat} {l : List (Int × List S53)} {bm q : Option Value} {A : Option Addr} {c : Nat} {s x : Operand} (G : CG w5 B l none bm q W) (HR : Kd.R kFam 93 w5 B (fun _ => True) (.slice A l.length c) l) (hB : B ≤ w5.heap.size)
    (hw : Region.wanted o (yielded ops a.tmps) = true) (ho : o.op = .call { callee := .builtin .append, args := #[s, x], argTypes := #[42, 42] }) (hs : a.eval s = .slice none 0 0) (hx : a.eval x = .slice A l.length c) (hl : l.length * 32 ≤ 140737488355328)
    (h : ∀ v1 w1, CG w5 B l (some v1) bm q w1 → Kc (a.put o.dst v1) w1) :
    if Region.wanted o (yielded ops a.tmps) = true then Oper.wp Tryd.prog o a W Kc Q else Kc (a.put o.dst undef) W := by
  obtain ⟨A', c', e1, _, hr⟩ := OwnRow.reads (Kd.R_below HR G.bel).2
  injection e1 with e1 e2 e3
  subst e1
  refine Kd.R_append_rows_step kFam (w0 := W) B hw s x 42 93 (.agg #[.int .i64 0, .slice none 0 0]) 32 ho Tryd.underlying42 infoFam rfl (by decide) (by decide) (.slice none 0 0) [] l A l.length c (fun _ => True) (fun _ => True) hs hx (Kd.R_nil _ _ _ _ _) hr (fun _ _ hm => kFam.M_mono (fun _ _ => trivial) hm) (fun k _ => ⟨trivial, by simp [Value.ownBlock]⟩) (fun _ _ => trivial) (Below.refl _ _) (Nat.le_trans hB G.size) (by simpa using hl) ?_
  intro v1 w1 hr1 _ hg _
  rw [List.nil_append] at hr1
  exact h v1 w1 (G.app hr1 hg)
/-- The loop over the map that is copied: it: the iterator. -/
structure CL (w : World) (B : Nat) (l : List (Int × List S53)) (v : Value) (mg : Int) (b bm q it : Nat) (W : World) : Prop where
  bel : Below w.heap.size w W
  row : Kd.R kFam 93 W B (fun k => k ≠ bm ∧ k ≠ it) v l
  box : W.heap[q]? = some (.cells #[v, .map (some bm), .int .i64 mg] 45 (0, 0))
  res : W.heap[w.heap.size]? = some (.cells #[.slice none 0 0, .map none, .int .i64 0] 45 (0, 0))
theorem CL.grown {w W W' : World} {B : Nat} {l : List (Int × List S53)} {v : Value} {mg : Int} {b bm q it : Nat} (h : CL w B l v mg b bm q it W) {r : Nat} (hg : W.grownBy W' (some r)) (hr : r = bm ∨ r = it) (hn : w.heap.size < r) (hq : q ≠ r) : CL w B l v mg b bm q it W' :=
  ⟨h.bel.trans (bel_of_grown hg h.bel.size (fun k e => by injection e with e; omega)), Kd.R_grown h.row hg (fun k hk e => by injection e with e; have h1 := hk.1; have h2 := hk.2; omega), blk_grown h.box hg (by intro e; injection e with e; exact hq e), blk_grown h.res hg (by intro e; injection e with e; omega)⟩
end Go.Proofs.YtfgglniigeagdaaDoor.Cn
namespace Go.Proofs.YtfgglniigeagdaaDoor.Cn
set_option linter.unusedSimpArgs false
set_option linter.unusedVariables false
open Go.RowKit Go.Maps Go.Proofs.YtfgglniigeagdaaDoorW.PrintWords Go.Proofs.YtfgglniigeagdaaDoorW.PrintLast Go.Proofs.YtfgglniigeagdaaDoorW.PrintMore Go.Proofs.YtfgglniigeagdaaDoor.QD
set_option maxRecDepth 100000 in
set_option maxHeartbeats 4000000 in
theorem copied_calls (B g b : Nat) (t : TypeId) (rest : List Value) (gs : List (List S53)) (v : Value) (D : DataW Unit) (w : World) (hT : TB B g t rest (fun _ => True) gs v b D w) (hB : B ≤ w.heap.size) (hg0 : gs.length ≤ 1099511627776) :
    Calls Tryd.prog 44 #[.pointer (some ⟨g, 0, none⟩)] w fun e w' => ∃ (v' : Value) (bm : Nat), e = .returned (.agg #[v', .map (some bm), .int .i64 (manyOf gs)]) ∧ Kd.R kFam 93 w' B (fun _ => True) v' (famsFrom 0 gs) ∧ w'.ownsMap Tryd.prog 9 (plainElem (H := Unit) Tryd.prog 3) bm gs.length D ∧ w.heap.size ≤ bm ∧ Below w.heap.size w w' := by
  have hmm := @run_makeMap Tryd.prog
  obtain ⟨Av, cv, hv, hcv, hCv⟩ := Kd.R_reads hT.row
  subst hv
  obtain ⟨ll, hll⟩ : ∃ ll : List (Int × List S53), ll = famsFrom 0 gs := ⟨_, rfl⟩
  have hlen : ll.length = gs.length := by rw [hll, famsFrom_length]
  rw [← hll] at hcv hCv
  obtain ⟨mg, hmg⟩ : ∃ mg : Int, mg = manyOf gs := ⟨_, rfl⟩
  obtain ⟨c0, c1, c2⟩ := cells3 hT.box
  rw [← hll] at c0
  rw [← hmg] at c2 ⊢
  rw [← hll]
  have HROW : Aside0 (Kd.R kFam 93 w B (fun _ => True) (.slice Av ll.length cv) ll) := ⟨by have h_ := hT.row; rw [← hll] at h_; exact h_⟩
  have HMAP := Aside0.mk hT.map
  have HB := Aside0.mk hB
  have HGL := Aside0.mk hg0
  have HLEN := Aside0.mk hlen
  have QQ := Aside0.mk (And.intro c0 c2)
  have Q1 := Aside0.mk c1
  have HLT : Aside0 (g < w.heap.size) := ⟨blk_lt hT.box⟩
  clear hT hB hg0 hcv hCv hll hmg hlen c0 c1 c2
  go_enter Tryd.func44, Tryd.ntmps44
  go_wp2_with fail
  have C0 : Aside0 (Below w.heap.size w (World.drew (w.alloc (.cells #[.slice none 0 0, .map none, .int .i64 0] 45)))) := ⟨((Below.refl w.heap.size w).alloc (Nat.le_refl _) (.cells #[.slice none 0 0, .map none, .int .i64 0] 45)).trans ⟨rfl, rfl, rfl, Nat.le_refl _, fun _ _ => rfl⟩⟩
  have R0 : Aside0 ((World.drew (w.alloc (.cells #[.slice none 0 0, .map none, .int .i64 0] 45))).heap[w.heap.size]? = some (.cells #[.slice none 0 0, .map none, .int .i64 0] 45 (0, 0))) := ⟨blk_new w _⟩
  refine start_ (n := 13) (S := fun w' => w'.cell? ⟨g, 0, none⟩ = some (.slice Av ll.length cv) ∧ w'.cell? ⟨g, 2, none⟩ = some (.int .i64 mg)) (ds := [12]) #[false, false, false, false, false, false, false, false, false, false, false, false, false] (by kernel_rfl) rfl rfl ⟨(C0.out.cell HLT.out).trans QQ.out.1, (C0.out.cell HLT.out).trans QQ.out.2⟩ (fun hHeld => ?_)
  generalize World.drew _ = w5 at C0 R0 hHeld ⊢
  have QA : Aside0 (w5.cell? ⟨g, 0, none⟩ = some (.slice Av ll.length cv) ∧ w5.cell? ⟨g, 2, none⟩ = some (.int .i64 mg)) := ⟨(C0.out.cell HLT.out).trans QQ.out.1, (C0.out.cell HLT.out).trans QQ.out.2⟩
  have HROW5 := Aside0.mk (Kd.R_below HROW.out C0.out)
  have HB5 : Aside0 (B ≤ w5.heap.size) := ⟨Nat.le_trans HB.out C0.out.size⟩
  have G0 := Aside0.mk (CG.start w5 B ll)
  refine pure_ (i := 0) (N := some 6) (v := ?_) (a' := ?_) #[true, false, false, false, false, false, false, false, false, false, false, false, false] rfl rfl (by kernel_rfl) (fun _ _ _ h => h) (Or.inl ⟨by rfl, ?_⟩) ?_ ?_
  rotate_left
  · intro w'
    go_simp
    with_reducible rfl
  rotate_left
  · simp only [Act.put, List.setIfInBounds_toArray, List.set_cons_zero, List.set_cons_succ, i64_w, i32_w]
    rfl
  refine pure_ (i := 1) (N := some 7) (v := ?_) (a' := ?_) #[true, true, false, false, false, false, false, false, false, false, false, false, false] rfl rfl (by kernel_rfl) (fun _ _ _ h => h) (Or.inl ⟨by rfl, ?_⟩) ?_ ?_
  rotate_left
  · intro w'
    go_simp
    with_reducible rfl
  rotate_left
  · simp only [Act.put, List.setIfInBounds_toArray, List.set_cons_zero, List.set_cons_succ, i64_w, i32_w]
    rfl
  refine pure_ (i := 2) (N := some 8) (v := ?_) (a' := ?_) #[true, true, true, false, false, false, false, false, false, false, false, false, false] rfl rfl (by kernel_rfl) (fun _ _ _ h => h) (Or.inl ⟨by rfl, ?_⟩) ?_ ?_
  rotate_left
  · intro w'
    go_simp
    with_reducible rfl
  rotate_left
  · simp only [Act.put, List.setIfInBounds_toArray, List.set_cons_zero, List.set_cons_succ, i64_w, i32_w]
    rfl
  refine pure_ (i := 6) (N := some 12) (v := ?_) (a' := ?_) #[true, true, true, false, false, false, true, false, false, false, false, false, false] rfl rfl (by kernel_rfl) (fun _ _ _ h => h) (Or.inl ⟨by rfl, ?_⟩) ?_ ?_
  rotate_left
  · intro w'
    go_simp
    with_reducible rfl
  rotate_left
  · simp only [Act.put, List.setIfInBounds_toArray, List.set_cons_zero, List.set_cons_succ, i64_w, i32_w]
    rfl
  refine pure_ (i := 7) (N := some 13) (v := ?_) (a' := ?_) #[true, true, true, false, false, false, true, true, false, false, false, false, false] rfl rfl (by kernel_rfl) (fun _ _ _ h => h) (Or.inl ⟨by rfl, ?_⟩) ?_ ?_
  rotate_left
  · intro w'
    go_simp
    with_reducible rfl
  rotate_left
  · simp only [Act.put, List.setIfInBounds_toArray, List.set_cons_zero, List.set_cons_succ, i64_w, i32_w]
    rfl
  refine pure_ (i := 8) (N := some 14) (v := ?_) (a' := ?_) #[true, true, true, false, false, false, true, true, true, false, false, false, false] rfl rfl (by kernel_rfl) (fun _ _ _ h => h) (Or.inl ⟨by rfl, ?_⟩) ?_ ?_
  rotate_left
  · intro w'
    go_simp
    with_reducible rfl
  rotate_left
  · simp only [Act.put, List.setIfInBounds_toArray, List.set_cons_zero, List.set_cons_succ, i64_w, i32_w]
    rfl
  refine take_ (i := 3) (N := some 9) (v := ?_) (a' := ?_) #[true, true, true, true, false, false, true, true, true, false, false, false, false] rfl rfl (by kernel_rfl) (fun _ _ _ h => h) (Or.inl ⟨by rfl, ?_⟩) hHeld ?_ ?_
  rotate_left
  · rintro w' ⟨s0, s1⟩
    go_simp
    with_reducible rfl
  rotate_left
  · simp only [Act.put, List.setIfInBounds_toArray, List.set_cons_zero, List.set_cons_succ, i64_w, i32_w]
    rfl
  refine take_ (i := 9) (N := some 15) (v := ?_) (a' := ?_) #[true, true, true, true, false, false, true, true, true, true, false, false, false] rfl rfl (by kernel_rfl) (fun _ _ _ h => h) (Or.inl ⟨by rfl, ?_⟩) hHeld ?_ ?_
  rotate_left
  · rintro w' ⟨s0, s1⟩
    go_simp
    with_reducible rfl
  rotate_left
  · simp only [Act.put, List.setIfInBounds_toArray, List.set_cons_zero, List.set_cons_succ, i64_w, i32_w]
    rfl
  refine join_ (σ := Value × Value × Value) 1 #[true, true, true, true, true, true, true, true, true, true, true, true, false] (fun s_ => [(10, s_.1), (11, s_.2.1), (3, s_.2.2), (16, .agg #[s_.1, s_.2.1, .int .i64 mg])]) (fun s_ w' => CG w5 B ll (some s_.1) (some s_.2.1) (some s_.2.2) w') ?_ ?_
  rotate_left
  · intro hCont
    refine three_ (i := 4) (j := 5) (k := 11) (Ni := some 10) (Nj := some 11) (Nk := some 3) #[true, true, true, true, true, false, true, true, true, true, false, false, false] #[true, true, true, true, false, true, true, true, true, true, false, false, false] #[true, true, true, true, false, false, true, true, true, true, false, true, false] rfl rfl rfl rfl rfl rfl (by kernel_rfl) (by decide) (by decide) (by decide) (fun K hK => ?_) (fun K hK => ?_) (fun K hK => ?_)
    · skip
      refine copy_step G0.out HROW5.out HB5.out (by rfl) (s := .const (.slice none 0 0)) (x := .tmp 9) rfl rfl rfl (by rw [HLEN.out]; have := HGL.out; omega) ?_
      intro v5 w8 hG8
      obtain ⟨A5, c5, e5⟩ := Kd.R_slice (hG8.row _ rfl)
      subst e5
      have G4 := Aside0.mk hG8
      clear hG8
      refine hK.out _ _ ⟨G4.out.cell QA.out.1, G4.out.cell QA.out.2⟩ (fun hHeld => ?_)
      clear hK K
      refine norm_ (a' := ?_) ?_ ?_
      rotate_left
      · show Act.put _ (some 10) _ = _
        simp only [Act.put, List.setIfInBounds_toArray, List.set_cons_zero, List.set_cons_succ, i64_w, i32_w]
        rfl
      refine two_ (i := 5) (j := 11) (Ni := some 11) (Nj := some 3) #[true, true, true, true, true, true, true, true, true, true, false, false, false] #[true, true, true, true, true, false, true, true, true, true, false, true, false] rfl rfl rfl rfl (by kernel_rfl) (by decide) (by decide) (fun K hK => ?_) (fun K hK => ?_)
      · skip
        refine value_ (w1 := ?_) (v := ?_) (by rfl) rfl ?_ ?_
        rotate_left 2
        · go_simp
          constructor
          · rfl
          · rfl
        have G4_5 := Aside0.mk G4.out.mm
        try simp only [World.size_alloc] at G4_5
        refine hK.out _ _ ⟨G4_5.out.cell QA.out.1, G4_5.out.cell QA.out.2⟩ (fun hHeld => ?_)
        clear hK K
        refine norm_ (a' := ?_) ?_ ?_
        rotate_left
        · show Act.put _ (some 11) _ = _
          simp only [Act.put, List.setIfInBounds_toArray, List.set_cons_zero, List.set_cons_succ, i64_w, i32_w]
          rfl
        refine pure_ (i := 10) (N := some 16) (v := ?_) (a' := ?_) #[true, true, true, true, true, true, true, true, true, true, true, false, false] rfl rfl (by kernel_rfl) (fun _ _ _ h => h) (Or.inl ⟨by rfl, ?_⟩) ?_ ?_
        rotate_left
        · intro w'
          go_simp
          with_reducible rfl
        rotate_left
        · simp only [Act.put, List.setIfInBounds_toArray, List.set_cons_zero, List.set_cons_succ, i64_w, i32_w]
          rfl
        refine one_ (i := 11) (N := some 3) #[true, true, true, true, true, true, true, true, true, true, true, true, false] rfl rfl (by kernel_rfl) (by decide) (fun K hK => ?_)
        refine value_ (w1 := ?_) (v := ?_) (by rfl) rfl ?_ ?_
        rotate_left 2
        · go_simp
          constructor
          · rfl
          · rfl
        have G4_5_11 := Aside0.mk G4_5.out.al
        try simp only [World.size_alloc] at G4_5_11
        refine hK.out _ _ ⟨G4_5_11.out.cell QA.out.1, G4_5_11.out.cell QA.out.2⟩ (fun hHeld => ?_)
        clear hK K
        refine norm_ (a' := ?_) ?_ ?_
        rotate_left
        · show Act.put _ (some 3) _ = _
          simp only [Act.put, List.setIfInBounds_toArray, List.set_cons_zero, List.set_cons_succ, i64_w, i32_w]
          rfl
        exact norm_ (by simp only [putAll, Act.put, List.setIfInBounds_toArray, List.set_cons_zero, List.set_cons_succ]) (hCont (_, _, _) _ G4_5_11.out)
      · skip
        refine value_ (w1 := ?_) (v := ?_) (by rfl) rfl ?_ ?_
        rotate_left 2
        · go_simp
          constructor
          · rfl
          · rfl
        have G4_11 := Aside0.mk G4.out.al
        try simp only [World.size_alloc] at G4_11
        refine hK.out _ _ ⟨G4_11.out.cell QA.out.1, G4_11.out.cell QA.out.2⟩ (fun hHeld => ?_)
        clear hK K
        refine norm_ (a' := ?_) ?_ ?_
        rotate_left
        · show Act.put _ (some 3) _ = _
          simp only [Act.put, List.setIfInBounds_toArray, List.set_cons_zero, List.set_cons_succ, i64_w, i32_w]
          rfl
        refine one_ (i := 5) (N := some 11) #[true, true, true, true, true, true, true, true, true, true, false, true, false] rfl rfl (by kernel_rfl) (by decide) (fun K hK => ?_)
        refine value_ (w1 := ?_) (v := ?_) (by rfl) rfl ?_ ?_
        rotate_left 2
        · go_simp
          constructor
          · rfl
          · rfl
        have G4_11_5 := Aside0.mk G4_11.out.mm
        try simp only [World.size_alloc] at G4_11_5
        refine hK.out _ _ ⟨G4_11_5.out.cell QA.out.1, G4_11_5.out.cell QA.out.2⟩ (fun hHeld => ?_)
        clear hK K
        refine norm_ (a' := ?_) ?_ ?_
        rotate_left
        · show Act.put _ (some 11) _ = _
          simp only [Act.put, List.setIfInBounds_toArray, List.set_cons_zero, List.set_cons_succ, i64_w, i32_w]
          rfl
        refine pure_ (i := 10) (N := some 16) (v := ?_) (a' := ?_) #[true, true, true, true, true, true, true, true, true, true, true, true, false] rfl rfl (by kernel_rfl) (fun _ _ _ h => h) (Or.inl ⟨by rfl, ?_⟩) ?_ ?_
        rotate_left
        · intro w'
          go_simp
          with_reducible rfl
        rotate_left
        · simp only [Act.put, List.setIfInBounds_toArray, List.set_cons_zero, List.set_cons_succ, i64_w, i32_w]
          rfl
        exact norm_ (by simp only [putAll, Act.put, List.setIfInBounds_toArray, List.set_cons_zero, List.set_cons_succ]) (hCont (_, _, _) _ G4_11_5.out)
    · skip
      refine value_ (w1 := ?_) (v := ?_) (by rfl) rfl ?_ ?_
      rotate_left 2
      · go_simp
        constructor
        · rfl
        · rfl
      have G5 := Aside0.mk G0.out.mm
      try simp only [World.size_alloc] at G5
      refine hK.out _ _ ⟨G5.out.cell QA.out.1, G5.out.cell QA.out.2⟩ (fun hHeld => ?_)
      clear hK K
      refine norm_ (a' := ?_) ?_ ?_
      rotate_left
      · show Act.put _ (some 11) _ = _
        simp only [Act.put, List.setIfInBounds_toArray, List.set_cons_zero, List.set_cons_succ, i64_w, i32_w]
        rfl
      refine two_ (i := 4) (j := 11) (Ni := some 10) (Nj := some 3) #[true, true, true, true, true, true, true, true, true, true, false, false, false] #[true, true, true, true, false, true, true, true, true, true, false, true, false] rfl rfl rfl rfl (by kernel_rfl) (by decide) (by decide) (fun K hK => ?_) (fun K hK => ?_)
      · skip
        refine copy_step G5.out HROW5.out HB5.out (by rfl) (s := .const (.slice none 0 0)) (x := .tmp 9) rfl rfl rfl (by rw [HLEN.out]; have := HGL.out; omega) ?_
        intro v5 w8 hG8
        obtain ⟨A5, c5, e5⟩ := Kd.R_slice (hG8.row _ rfl)
        subst e5
        have G5_4 := Aside0.mk hG8
        clear hG8
        refine hK.out _ _ ⟨G5_4.out.cell QA.out.1, G5_4.out.cell QA.out.2⟩ (fun hHeld => ?_)
        clear hK K
        refine norm_ (a' := ?_) ?_ ?_
        rotate_left
        · show Act.put _ (some 10) _ = _
          simp only [Act.put, List.setIfInBounds_toArray, List.set_cons_zero, List.set_cons_succ, i64_w, i32_w]
          rfl
        refine pure_ (i := 10) (N := some 16) (v := ?_) (a' := ?_) #[true, true, true, true, true, true, true, true, true, true, true, false, false] rfl rfl (by kernel_rfl) (fun _ _ _ h => h) (Or.inl ⟨by rfl, ?_⟩) ?_ ?_
        rotate_left
        · intro w'
          go_simp
          with_reducible rfl
        rotate_left
        · simp only [Act.put, List.setIfInBounds_toArray, List.set_cons_zero, List.set_cons_succ, i64_w, i32_w]
          rfl
        refine one_ (i := 11) (N := some 3) #[true, true, true, true, true, true, true, true, true, true, true, true, false] rfl rfl (by kernel_rfl) (by decide) (fun K hK => ?_)
        refine value_ (w1 := ?_) (v := ?_) (by rfl) rfl ?_ ?_
        rotate_left 2
        · go_simp
          constructor
          · rfl
          · rfl
        have G5_4_11 := Aside0.mk G5_4.out.al
        try simp only [World.size_alloc] at G5_4_11
        refine hK.out _ _ ⟨G5_4_11.out.cell QA.out.1, G5_4_11.out.cell QA.out.2⟩ (fun hHeld => ?_)
        clear hK K
        refine norm_ (a' := ?_) ?_ ?_
        rotate_left
        · show Act.put _ (some 3) _ = _
          simp only [Act.put, List.setIfInBounds_toArray, List.set_cons_zero, List.set_cons_succ, i64_w, i32_w]
          rfl
        exact norm_ (by simp only [putAll, Act.put, List.setIfInBounds_toArray, List.set_cons_zero, List.set_cons_succ]) (hCont (_, _, _) _ G5_4_11.out)
      · skip
        refine value_ (w1 := ?_) (v := ?_) (by rfl) rfl ?_ ?_
        rotate_left 2
        · go_simp
          constructor
          · rfl
          · rfl
        have G5_11 := Aside0.mk G5.out.al
        try simp only [World.size_alloc] at G5_11
        refine hK.out _ _ ⟨G5_11.out.cell QA.out.1, G5_11.out.cell QA.out.2⟩ (fun hHeld => ?_)
        clear hK K
        refine norm_ (a' := ?_) ?_ ?_
        rotate_left
        · show Act.put _ (some 3) _ = _
          simp only [Act.put, List.setIfInBounds_toArray, List.set_cons_zero, List.set_cons_succ, i64_w, i32_w]
          rfl
        refine one_ (i := 4) (N := some 10) #[true, true, true, true, true, true, true, true, true, true, false, true, false] rfl rfl (by kernel_rfl) (by decide) (fun K hK => ?_)
        refine copy_step G5_11.out HROW5.out HB5.out (by rfl) (s := .const (.slice none 0 0)) (x := .tmp 9) rfl rfl rfl (by rw [HLEN.out]; have := HGL.out; omega) ?_
        intro v5 w8 hG8
        obtain ⟨A5, c5, e5⟩ := Kd.R_slice (hG8.row _ rfl)
        subst e5
        have G5_11_4 := Aside0.mk hG8
        clear hG8
        refine hK.out _ _ ⟨G5_11_4.out.cell QA.out.1, G5_11_4.out.cell QA.out.2⟩ (fun hHeld => ?_)
        clear hK K
        refine norm_ (a' := ?_) ?_ ?_
        rotate_left
        · show Act.put _ (some 10) _ = _
          simp only [Act.put, List.setIfInBounds_toArray, List.set_cons_zero, List.set_cons_succ, i64_w, i32_w]
          rfl
        refine pure_ (i := 10) (N := some 16) (v := ?_) (a' := ?_) #[true, true, true, true, true, true, true, true, true, true, true, true, false] rfl rfl (by kernel_rfl) (fun _ _ _ h => h) (Or.inl ⟨by rfl, ?_⟩) ?_ ?_
        rotate_left
        · intro w'
          go_simp
          with_reducible rfl
        rotate_left
        · simp only [Act.put, List.setIfInBounds_toArray, List.set_cons_zero, List.set_cons_succ, i64_w, i32_w]
          rfl
        exact norm_ (by simp only [putAll, Act.put, List.setIfInBounds_toArray, List.set_cons_zero, List.set_cons_succ]) (hCont (_, _, _) _ G5_11_4.out)
    · skip
      refine value_ (w1 := ?_) (v := ?_) (by rfl) rfl ?_ ?_
      rotate_left 2
      · go_simp
        constructor
        · rfl
        · rfl
      have G11 := Aside0.mk G0.out.al
      try simp only [World.size_alloc] at G11
      refine hK.out _ _ ⟨G11.out.cell QA.out.1, G11.out.cell QA.out.2⟩ (fun hHeld => ?_)
      clear hK K
      refine norm_ (a' := ?_) ?_ ?_
      rotate_left
      · show Act.put _ (some 3) _ = _
        simp only [Act.put, List.setIfInBounds_toArray, List.set_cons_zero, List.set_cons_succ, i64_w, i32_w]
        rfl
      refine two_ (i := 4) (j := 5) (Ni := some 10) (Nj := some 11) #[true, true, true, true, true, false, true, true, true, true, false, true, false] #[true, true, true, true, false, true, true, true, true, true, false, true, false] rfl rfl rfl rfl (by kernel_rfl) (by decide) (by decide) (fun K hK => ?_) (fun K hK => ?_)
      · skip
        refine copy_step G11.out HROW5.out HB5.out (by rfl) (s := .const (.slice none 0 0)) (x := .tmp 9) rfl rfl rfl (by rw [HLEN.out]; have := HGL.out; omega) ?_
        intro v5 w8 hG8
        obtain ⟨A5, c5, e5⟩ := Kd.R_slice (hG8.row _ rfl)
        subst e5
        have G11_4 := Aside0.mk hG8
        clear hG8
        refine hK.out _ _ ⟨G11_4.out.cell QA.out.1, G11_4.out.cell QA.out.2⟩ (fun hHeld => ?_)
        clear hK K
        refine norm_ (a' := ?_) ?_ ?_
        rotate_left
        · show Act.put _ (some 10) _ = _
          simp only [Act.put, List.setIfInBounds_toArray, List.set_cons_zero, List.set_cons_succ, i64_w, i32_w]
          rfl
        refine one_ (i := 5) (N := some 11) #[true, true, true, true, true, true, true, true, true, true, false, true, false] rfl rfl (by kernel_rfl) (by decide) (fun K hK => ?_)
        refine value_ (w1 := ?_) (v := ?_) (by rfl) rfl ?_ ?_
        rotate_left 2
        · go_simp
          constructor
          · rfl
          · rfl
        have G11_4_5 := Aside0.mk G11_4.out.mm
        try simp only [World.size_alloc] at G11_4_5
        refine hK.out _ _ ⟨G11_4_5.out.cell QA.out.1, G11_4_5.out.cell QA.out.2⟩ (fun hHeld => ?_)
        clear hK K
        refine norm_ (a' := ?_) ?_ ?_
        rotate_left
        · show Act.put _ (some 11) _ = _
          simp only [Act.put, List.setIfInBounds_toArray, List.set_cons_zero, List.set_cons_succ, i64_w, i32_w]
          rfl
        refine pure_ (i := 10) (N := some 16) (v := ?_) (a' := ?_) #[true, true, true, true, true, true, true, true, true, true, true, true, false] rfl rfl (by kernel_rfl) (fun _ _ _ h => h) (Or.inl ⟨by rfl, ?_⟩) ?_ ?_
        rotate_left
        · intro w'
          go_simp
          with_reducible rfl
        rotate_left
        · simp only [Act.put, List.setIfInBounds_toArray, List.set_cons_zero, List.set_cons_succ, i64_w, i32_w]
          rfl
        exact norm_ (by simp only [putAll, Act.put, List.setIfInBounds_toArray, List.set_cons_zero, List.set_cons_succ]) (hCont (_, _, _) _ G11_4_5.out)
      · skip
        refine value_ (w1 := ?_) (v := ?_) (by rfl) rfl ?_ ?_
        rotate_left 2
        · go_simp
          constructor
          · rfl
          · rfl
        have G11_5 := Aside0.mk G11.out.mm
        try simp only [World.size_alloc] at G11_5
        refine hK.out _ _ ⟨G11_5.out.cell QA.out.1, G11_5.out.cell QA.out.2⟩ (fun hHeld => ?_)
        clear hK K
        refine norm_ (a' := ?_) ?_ ?_
        rotate_left
        · show Act.put _ (some 11) _ = _
          simp only [Act.put, List.setIfInBounds_toArray, List.set_cons_zero, List.set_cons_succ, i64_w, i32_w]
          rfl
        refine one_ (i := 4) (N := some 10) #[true, true, true, true, true, true, true, true, true, true, false, true, false] rfl rfl (by kernel_rfl) (by decide) (fun K hK => ?_)
        refine copy_step G11_5.out HROW5.out HB5.out (by rfl) (s := .const (.slice none 0 0)) (x := .tmp 9) rfl rfl rfl (by rw [HLEN.out]; have := HGL.out; omega) ?_
        intro v5 w8 hG8
        obtain ⟨A5, c5, e5⟩ := Kd.R_slice (hG8.row _ rfl)
        subst e5
        have G11_5_4 := Aside0.mk hG8
        clear hG8
        refine hK.out _ _ ⟨G11_5_4.out.cell QA.out.1, G11_5_4.out.cell QA.out.2⟩ (fun hHeld => ?_)
        clear hK K
        refine norm_ (a' := ?_) ?_ ?_
        rotate_left
        · show Act.put _ (some 10) _ = _
          simp only [Act.put, List.setIfInBounds_toArray, List.set_cons_zero, List.set_cons_succ, i64_w, i32_w]
          rfl
        refine pure_ (i := 10) (N := some 16) (v := ?_) (a' := ?_) #[true, true, true, true, true, true, true, true, true, true, true, true, false] rfl rfl (by kernel_rfl) (fun _ _ _ h => h) (Or.inl ⟨by rfl, ?_⟩) ?_ ?_
        rotate_left
        · intro w'
          go_simp
          with_reducible rfl
        rotate_left
        · simp only [Act.put, List.setIfInBounds_toArray, List.set_cons_zero, List.set_cons_succ, i64_w, i32_w]
          rfl
        exact norm_ (by simp only [putAll, Act.put, List.setIfInBounds_toArray, List.set_cons_zero, List.set_cons_succ]) (hCont (_, _, _) _ G11_5_4.out)
  rintro ⟨v6, u6, p6⟩ w6 hG6
  have hHeld : w6.cell? ⟨g, 0, none⟩ = some (.slice Av ll.length cv) ∧ w6.cell? ⟨g, 2, none⟩ = some (.int .i64 mg) := ⟨hG6.cell QA.out.1, hG6.cell QA.out.2⟩
  obtain ⟨bm, eu, hbm, hbm0⟩ := hG6.map _ rfl
  obtain ⟨pq, ep, hpq, hpq0⟩ := hG6.box _ rfl
  have hr6 := hG6.row _ rfl
  obtain ⟨A6, n6, e6⟩ := Kd.R_slice hr6
  dsimp only at eu ep e6 hr6
  subst eu ep e6
  have G6 := Aside0.mk hG6.bel
  have HBM := Aside0.mk hbm
  have HPQ := Aside0.mk hpq
  have HR6 := Aside0.mk hr6
  have HBM0 := Aside0.mk hbm0
  have HPQ0 := Aside0.mk hpq0
  clear hG6 hbm hpq hr6 hbm0 hpq0
  refine norm_ (a' := ?_) ?_ ?_
  rotate_left
  · simp only [putAll, Act.put, List.setIfInBounds_toArray, List.set_cons_zero, List.set_cons_succ]
    rfl
  refine last_ (i := 12) (N := none) #[true, true, true, true, true, true, true, true, true, true, true, true, true] rfl rfl (by kernel_rfl) (by decide) (fun K hK => ?_)
  have hs0_ : w6.cell? ⟨pq, 0, none⟩ = some (.slice none 0 0) := (blk_cell HPQ.out 0).trans rfl
  have hs1_ : w6.cell? ⟨pq, 1, none⟩ = some (.map none) := (blk_cell HPQ.out 1).trans rfl
  have hs2_ : w6.cell? ⟨pq, 2, none⟩ = some (.int .i64 0) := (blk_cell HPQ.out 2).trans rfl
  have hf0_ : w6.frozen? ⟨pq, 0, none⟩ = false := blk_frozen HPQ.out 0
  have hf1_ : w6.frozen? ⟨pq, 1, none⟩ = false := blk_frozen HPQ.out 1
  have hf2_ : w6.frozen? ⟨pq, 2, none⟩ = false := blk_frozen HPQ.out 2
  refine skip_ (w1 := ?_) (by rfl) rfl ?_ ?_
  rotate_left
  · go_simp
    rfl
  refine hK.out _ _ ?_
  clear hK K
  refine done_ (by kernel_rfl) ?_
  
  have hsz5 : w.heap.size < w5.heap.size := blk_lt R0.out
  have bx7 := blk_set (blk_set (blk_set HPQ.out 0 (.slice A6 ll.length n6)) 1 (.map (some bm))) 2 (.int .i64 mg)
  have hne : bm ≠ pq := by rintro rfl; have h_ := HBM.out; rw [HPQ.out] at h_; cases h_
  have hpq0 := HPQ0.out
  have hbm0 := HBM0.out
  have row7 := Kd.R_set (Kd.R_set (Kd.R_set HR6.out HPQ.out (by decide) 0 (.slice A6 ll.length n6)) (blk_set HPQ.out 0 (.slice A6 ll.length n6)) (by decide) 1 (.map (some bm))) (blk_set (blk_set HPQ.out 0 (.slice A6 ll.length n6)) 1 (.map (some bm))) (by decide) 2 (.int .i64 mg)
  have bel7 : Below w5.heap.size w5 (((w6.setCell ⟨pq, 0, none⟩ (.slice A6 ll.length n6)).setCell ⟨pq, 1, none⟩ (.map (some bm))).setCell ⟨pq, 2, none⟩ (.int .i64 mg)) := ((G6.out.setCell (B := w5.heap.size) (p := ⟨pq, 0, none⟩) hpq0 _).setCell (p := ⟨pq, 1, none⟩) hpq0 _).setCell (p := ⟨pq, 2, none⟩) hpq0 _
  have oth7 : ∀ k, k ≠ pq → (((w6.setCell ⟨pq, 0, none⟩ (.slice A6 ll.length n6)).setCell ⟨pq, 1, none⟩ (.map (some bm))).setCell ⟨pq, 2, none⟩ (.int .i64 mg)).heap[k]? = w6.heap[k]? := fun k hk => ((Below.heap_setCell _ ⟨pq, 2, none⟩ _ k hk).trans (Below.heap_setCell _ ⟨pq, 1, none⟩ _ k hk)).trans (Below.heap_setCell w6 ⟨pq, 0, none⟩ _ k hk)
  have map7 := (oth7 bm hne).trans HBM.out
  have res7 := (oth7 w.heap.size (by omega)).trans (blk_below R0.out G6.out)
  have bx7' : (((w6.setCell ⟨pq, 0, none⟩ (.slice A6 ll.length n6)).setCell ⟨pq, 1, none⟩ (.map (some bm))).setCell ⟨pq, 2, none⟩ (.int .i64 mg)).heap[pq]? = some (.cells #[(.slice A6 ll.length n6), .map (some bm), .int .i64 mg] 45 (0, 0)) := by simpa using bx7
  clear bx7 oth7
  generalize (((w6.setCell ⟨pq, 0, none⟩ (.slice A6 ll.length n6)).setCell ⟨pq, 1, none⟩ (.map (some bm))).setCell ⟨pq, 2, none⟩ (.int .i64 mg)) = w7 at bel7 row7 map7 res7 bx7' ⊢
  have belw := C0.out.trans (bel7.mono (Nat.le_of_lt hsz5))
  have HOWN := Aside0.mk (HMAP.out.kept (grown_of_below belw none) (by simp))
  have q1 : w7.cell? ⟨g, 1, none⟩ = some (.map (some b)) := (belw.cell HLT.out).trans Q1.out
  have HNE := Aside0.mk hne
  have HS5 := Aside0.mk hsz5
  have HB7 := Aside0.mk belw
  have HBEL7 := Aside0.mk bel7
  have HROW7 := Aside0.mk row7
  have HM7 := Aside0.mk map7
  have HRES7 := Aside0.mk res7
  have HBX7 := Aside0.mk bx7'
  have HLB : Aside0 (b < w.heap.size) := ⟨HMAP.out.lt⟩
  clear hne hsz5 belw bel7 row7 map7 res7 bx7' hpq0 hbm0
  go_wp2_with (at_range; refine wpList_range_own _ rfl _ 43 rfl 9 3 placesLaw Tryd.underlying43 _ b gs.length _ rfl HOWN.out ?_; intro w8 hrg0 hg0 hs0)
  go_frame
  have CL0 : CL w B ll (.slice A6 ll.length n6) mg b bm pq w7.heap.size w8 := ⟨HB7.out.trans (bel_of_grown hg0 HB7.out.size (by intro k e; cases e)), Kd.R_mono (Kd.R_grown (Kd.R_bound HROW7.out) hg0 (by intro k _ e; cases e)) (fun k hk => ⟨fun e => by obtain ⟨_, _, _, q_, _, cells_, hc_⟩ := hk; rw [e, HM7.out] at hc_; simp at hc_, fun e => by have := hk.2.2.1; omega⟩), blk_grown HBX7.out hg0 (by simp), blk_grown HRES7.out hg0 (by simp)⟩
  have OM0 : w8.ownsMap Tryd.prog 9 (plainElem (H := Unit) Tryd.prog 3) bm 0 (.map []) := World.ownsMap.kept (w := w7) ⟨#[], 0, HM7.out, ⟨by simp, MapKept.stamped_empty 0, by simp⟩, Nat.le_refl _, rfl⟩ hg0 (by simp)
  have hbq : bm < w7.heap.size ∧ pq < w7.heap.size := ⟨(Array.getElem?_eq_some_iff.1 HM7.out).1, blk_lt HBX7.out⟩
  have HBQ := Aside0.mk hbq
  clear hbq
  obtain ⟨it, hit⟩ : ∃ it, it = w7.heap.size := ⟨_, rfl⟩
  rw [← hit] at CL0 hrg0 HBQ ⊢
  have HIT := Aside0.mk hit
  clear hg0 hs0 q1 hit
  go_loopw [4, 5] (fun _ _ W => ∃ (left : Lit → Bool) (cnt : Nat) (Dout : DataW Unit), W.ranges Tryd.prog 9 (plainElem (H := Unit) Tryd.prog 3) b it gs.length D left cnt ∧ cnt ≤ Maps.size D ∧ W.ownsMap Tryd.prog 9 (plainElem (H := Unit) Tryd.prog 3) bm (Maps.size D - cnt) Dout ∧ Agree Dout D left ∧ CL w B ll (.slice A6 ll.length n6) mg b bm pq it W) (fun _ _ W => W.rangeLeft b it)
  case atStart => exact ⟨_, _, .map [], hrg0, Nat.le_refl _, OM0.mono (Nat.zero_le _), agree_start D, CL0⟩
  case round =>
    clear CL0 OM0 hrg0
    obtain ⟨left, cnt, Dout, hrg, hcs, hout, hA, hcl⟩ := hrel
    have HCL := Aside0.mk hcl
    have HRG := Aside0.mk hrg
    have HOUT := Aside0.mk hout
    have HA := Aside0.mk hA
    have HCS := Aside0.mk hcs
    clear hcl hrg hout hA hcs
    go_wp2_with (at_next; refine next_ranges_si _ rfl _ rfl 9 3 .i64 placesLaw Tryd.underlying9 Tryd.underlying3 b it gs.length _ _ _ rfl HRG.out ?_ ?_)
    · intro hc0 hl0
      have p0 : wr.cell? ⟨pq, 0, none⟩ = some (.slice A6 ll.length n6) := (blk_cell HCL.out.box 0).trans rfl
      have p1 : wr.cell? ⟨pq, 1, none⟩ = some (.map (some bm)) := (blk_cell HCL.out.box 1).trans rfl
      have p2 : wr.cell? ⟨pq, 2, none⟩ = some (.int .i64 mg) := (blk_cell HCL.out.box 2).trans rfl
      have r0 : wr.cell? ⟨w.heap.size, 0, none⟩ = some (.slice none 0 0) := (blk_cell HCL.out.res 0).trans rfl
      have f0 : wr.frozen? ⟨w.heap.size, 0, none⟩ = false := blk_frozen HCL.out.res 0
      have r1 : wr.cell? ⟨w.heap.size, 1, none⟩ = some (.map none) := (blk_cell HCL.out.res 1).trans rfl
      have f1 : wr.frozen? ⟨w.heap.size, 1, none⟩ = false := blk_frozen HCL.out.res 1
      have r2 : wr.cell? ⟨w.heap.size, 2, none⟩ = some (.int .i64 0) := (blk_cell HCL.out.res 2).trans rfl
      have f2 : wr.frozen? ⟨w.heap.size, 2, none⟩ = false := blk_frozen HCL.out.res 2
      go_wp2_with fail
      subst hc0
      have e_ := agree_end HA.out hl0 (HOUT.out.canon placesLaw) (HOWN.out.canon placesLaw)
      subst e_
      have bx9 := blk_set (blk_set (blk_set HCL.out.res 0 (.slice A6 ll.length n6)) 1 (.map (some bm))) 2 (.int .i64 mg)
      refine bodyPost_ret (results_cell_row rfl _ _ w.heap.size 45 #[(.slice A6 ll.length n6), .map (some bm), .int .i64 mg] (0, 0) _ rfl (by simpa using bx9) Tryd.underlying45 rfl (by kernel_rfl)) rfl ?_
      have belx := ((HCL.out.bel.setCell (B := w.heap.size) (p := ⟨w.heap.size, 0, none⟩) (Nat.le_refl _) (.slice A6 ll.length n6)).setCell (p := ⟨w.heap.size, 1, none⟩) (Nat.le_refl _) (.map (some bm))).setCell (p := ⟨w.heap.size, 2, none⟩) (Nat.le_refl _) (.int .i64 mg)
      have hne9 : bm ≠ w.heap.size := by have := HBM0.out; have := HS5.out; omega
      have rowx := Kd.R_set (Kd.R_set (Kd.R_set HCL.out.row HCL.out.res (by decide) 0 (.slice A6 ll.length n6)) (blk_set HCL.out.res 0 (.slice A6 ll.length n6)) (by decide) 1 (.map (some bm))) (blk_set (blk_set HCL.out.res 0 (.slice A6 ll.length n6)) 1 (.map (some bm))) (by decide) 2 (.int .i64 mg)
      have ks : ∀ {W : World} {n : Nat} (i : Nat) (u : Value), W.ownsMap Tryd.prog 9 (plainElem (H := Unit) Tryd.prog 3) bm n Dout → (W.setCell ⟨w.heap.size, i, none⟩ u).ownsMap Tryd.prog 9 (plainElem (H := Unit) Tryd.prog 3) bm n Dout := fun {W n} i u h => h.kept (row := some w.heap.size) ⟨rfl, rfl, rfl, by simp, fun k _ hk => Below.heap_setCell W ⟨w.heap.size, i, none⟩ u k (by rintro rfl; exact hk rfl)⟩ (by intro e; injection e with e; exact hne9 e)
      exact ⟨_, bm, rfl, Kd.R_mono rowx (fun _ _ => trivial), ks 2 _ (ks 1 _ (ks 0 _ (HOUT.out.mono (by have := HOWN.out.size_le; omega)))), by have := HBM0.out; have := HS5.out; omega, belx⟩
    · intro sk ca w9 cnt1 hkey hwc hlk hat hrg1 hlt hg1 hs1 hen
      have hout1 := Aside0.mk (HOUT.out.kept hg1 (by have := HBQ.out; have := HIT.out; intro e; injection e with e; omega))
      have CL1 := Aside0.mk (HCL.out.grown hg1 (Or.inr rfl) (by have := HS5.out; have := HBEL7.out.size; have := HIT.out; omega) (by have := HBQ.out; have := HIT.out; omega))
      have HKEY := Aside0.mk hkey
      have HWC := Aside0.mk hwc
      have HRG1 := Aside0.mk hrg1
      have HG1 := Aside0.mk hg1
      have HLT1 := Aside0.mk hlt
      have HAT := Aside0.mk hat
      have p1 : w9.cell? ⟨pq, 1, none⟩ = some (.map (some bm)) := (blk_cell CL1.out.box 1).trans rfl
      clear hkey hwc hlk hat hrg1 hlt hg1 hs1
      go_wp2_with (at_mapUpdate; refine wpList_mapUpdate_own _ rfl _ _ _ 43 rfl 9 3 placesLaw Tryd.underlying43 _ bm _ _ rfl hout1.out (by have := HOWN.out.size_le; have := HGL.out; unfold maxLen; omega) _ _ _ rfl rfl HKEY.out _ [] (plainElem_int Tryd.underlying3 HWC.out) ?_; intro w10 hout2 hg2; go_frame)
      have hrg2 := HRG1.out.kept hg2 (fun e => by have := Option.some.inj e; have := HBM0.out; have := HS5.out; have := HLB.out; omega) (fun e => by have := Option.some.inj e; have := HBQ.out; have := HIT.out; omega)
      go_roundw
      case rel => exact ⟨_, cnt1, _, hrg2, by have := HLT1.out; have := HCS.out; omega, hout2.mono (by have := HLT1.out; have := HCS.out; omega), agree_step HA.out HOUT.out.isMap (by trivial) HAT.out, CL1.out.grown hg2 (Or.inl rfl) (by have := HBM0.out; have := HS5.out; omega) (fun e => HNE.out e.symm)⟩
      case measure => rw [hrg2.left_eq, HRG.out.left_eq]; exact HLT1.out
/-- What Table.Add answers and leaves: c: is the list closed; st: what adding comes to. -/
def TAddOut (B g b : Nat) (gs : List (List S53)) (c : Prop) (st : Option (List (List S53) × List Int)) (w : World) (e : Ending) (w' : World) : Prop :=
  (¬ c ∧ ∃ n : Int, e = .returned (.tuple #[.slice none 0 0, .int .i64 n, .int .i64 50]) ∧ Below w.heap.size w w') ∨
  (c ∧ match st with
    | none => (∃ n : Int, e = .returned (.tuple #[.slice none 0 0, .int .i64 n, .int .i64 2])) ∧ FrA B w.heap.size w.heap.size w w'
    | some (gs', ids) => ∃ (vi v' : Value) (b' : Nat) (D' : DataW Unit), e = .returned (.tuple #[vi, .int .i64 0, .int .i64 0]) ∧ TB B g 47 [.bool true] (fun k => True ∧ some k ≠ vi.ownBlock) gs' v' b' D' w' ∧ Kd.R (Kd.int .i64) 3 w' w.heap.size (fun _ => True) vi ids ∧ FrA B g b w w')
theorem FrA.sub {B g b g' b' : Nat} {w0 w1 W : World} (hb : Below w0.heap.size w0 w1) (h : FrA B g' b' w1 W) (hB : B ≤ w0.heap.size) (hg : w0.heap.size ≤ g') (hb' : w0.heap.size ≤ b') : FrA B g b w0 W :=
  ⟨(hb.mono hB).trans h.bel, fun k o hk h1 h2 h3 => h.oth k o ((hb.block k (Array.getElem?_eq_some_iff.1 hk).1).trans hk) (by have := (Array.getElem?_eq_some_iff.1 hk).1; omega) (by have := (Array.getElem?_eq_some_iff.1 hk).1; omega) h3, hB⟩
set_option maxRecDepth 100000 in
set_option maxHeartbeats 4000000 in
theorem tadd_calls (B g b : Nat) (gs : List (List S53)) (v : Value) (D : DataW Unit) (A : Option Addr) (c : Nat) (l : List S62) (w : World) (hT : TB B g 47 [.bool true] (fun _ => True) gs v b D w) (hB : B ≤ w.heap.size)
    (hC : Kd.C k62 w A l.length l) (hcap : l.length ≤ c) (hLR : ∀ g' b' w1, Below w.heap.size w w1 → w.heap.size ≤ g' → w.heap.size ≤ b' → LR (fun W => FrA B g' b' w1 W) A l)
    (hsok : ∀ r ∈ l, ∀ s ∈ r.f0, SOk (fun _ => True) s) (hin : Clo l → ∀ r ∈ l, ∀ s ∈ r.f0, RIn s) (hw : wL l ≤ 1048576) (hl : l.length ≤ 1048576) (hm0 : manyOf gs ≤ 1099511627776) (hg0 : gs.length ≤ 1099511627776) :
    Calls Tryd.prog 19 #[.pointer (some ⟨g, 0, none⟩), .slice A l.length c] w fun e w' => TAddOut B g b gs (Clo l) (addTo 10000 (gs, []) l) w e w' := by
  have hc3 : w.cell? ⟨g, 3, none⟩ = some (.bool true) := (blk_cell hT.box 3).trans (by simp)
  have HT := Aside0.mk hT
  have HB := Aside0.mk hB
  have HC := Aside0.mk hC
  have HLR := Aside0.mk hLR
  have HSOK := Aside0.mk hsok
  have HIN := Aside0.mk hin
  have HW := Aside0.mk hw
  have HM0 := Aside0.mk hm0
  have HG0 := Aside0.mk hg0
  have HL := Aside0.mk hl
  clear hT hB hC hLR hsok hin hw hm0 hg0
  go_enter Tryd.func19, Tryd.ntmps19
  go_wp2_with fail
  refine (none_made g _ hc3).mono ?_
  rintro e w1 ⟨rfl, hw1⟩
  obtain rfl := hw1.symm
  go_wp2_with fail
  have htc : tcount l ≤ 1048576 := by have := tcount_le_wL l; have := HW.out; omega
  refine (closed_calls A c l _ HC.out hcap (by omega) (by omega) HSOK.out).mono ?_
  rintro e w2 ⟨⟨n, er, rfl, hcl⟩, hb2⟩
  rcases hcl with ⟨rfl, rfl, hclo⟩ | ⟨rfl, hclo⟩
  rotate_left
  · go_wp2_with fail
    go_ret3
    exact Or.inl ⟨hclo, n, rfl, hb2⟩
  have HCLO := Aside0.mk hclo
  have HB2 := Aside0.mk hb2
  have HT2 := Aside0.mk (HT.out.below hb2 HB.out)
  clear hclo hb2 htc
  go_wp2_with fail
  have hBz : B ≤ w2.heap.size := Nat.le_trans HB.out HB2.out.size
  refine (copied_calls B g b 47 [.bool true] gs v D w2 HT2.out hBz HG0.out).mono ?_
  rintro e w3 ⟨v', bm, rfl, hr3, hm3, hbm, hb3⟩
  obtain ⟨A3, c3, e3⟩ := Kd.R_slice hr3
  rw [famsFrom_length] at e3
  subst e3
  have HB3 := Aside0.mk hb3
  have HBZ := Aside0.mk hBz
  have HBM := Aside0.mk hbm
  obtain ⟨mg, hmg⟩ : ∃ mg : Int, mg = manyOf gs := ⟨_, rfl⟩
  have T3 : Aside0 (TB B w3.heap.size 45 [] (fun _ => True) gs (.slice A3 gs.length c3) bm D (w3.alloc (.cells #[.slice A3 gs.length c3, .map (some bm), .int .i64 mg] 45))) := ⟨{
    box := by rw [hmg]; exact blk_new w3 _
    row := Kd.R_below hr3 ((Below.refl _ _).alloc (Nat.le_refl _) _)
    map := hm3.alloc _
    pm := HT2.out.pm
    hg := Nat.le_trans hBz hb3.size
    hb := Nat.le_trans hBz hbm
    tab := (HT2.out.tab.on (hb3.mono hBz)).on ((Below.refl B _).alloc (Nat.le_trans hBz hb3.size) _) }⟩
  have HMG := Aside0.mk hmg
  rw [← hmg]
  clear hr3 hm3 hbm hb3 hBz hmg
  go_wp2_with fail
  have hbw : Below w.heap.size w (w3.alloc (.cells #[.slice A3 gs.length c3, .map (some bm), .int .i64 mg] 45)) := (HB2.out.trans (HB3.out.mono HB2.out.size)).trans ((Below.refl w.heap.size _).alloc (Nat.le_trans HB2.out.size HB3.out.size) _)
  have hz1 : w.heap.size ≤ w3.heap.size := Nat.le_trans HB2.out.size HB3.out.size
  have hz2 : w.heap.size ≤ bm := Nat.le_trans HB2.out.size HBM.out
  have HBW := Aside0.mk hbw
  have HZ1 := Aside0.mk hz1
  have HZ2 := Aside0.mk hz2
  refine (add_calls ⟨B, w3.heap.size, 45, [], gs, bm, l, 10000, w3.alloc (.cells #[.slice A3 gs.length c3, .map (some bm), .int .i64 mg] 45)⟩ _ D A c T3.out (Or.inr rfl) (Nat.le_trans HB.out hbw.size) (HLR.out _ _ _ hbw hz1 hz2) hcap (HIN.out HCLO.out) HW.out HL.out HM0.out HG0.out ⟨by show (0 : Int) ≤ 10000; decide, by show (10000 : Int) ≤ 9223372036854775807; decide⟩).mono ?_
  intro e w4 hout
  unfold AddOut at hout
  dsimp only at hout
  obtain ⟨st, hst⟩ : ∃ st, st = addTo 10000 (gs, []) l := ⟨_, rfl⟩
  rw [← hst] at hout
  have HST := Aside0.mk hst
  clear hst hbw hz1 hz2
  rcases st with _ | ⟨gs', ids⟩
  · obtain ⟨n, gs1, v1, D1, rfl, ht4, hf4⟩ := hout
    have HF := Aside0.mk hf4
    clear ht4 hf4
    have hn0 : (0 : Int) ≤ n := by omega
    go_wp2_with fail
    go_ret3
    refine Or.inr ⟨HCLO.out, ?_⟩
    rw [← HST.out]
    exact ⟨⟨n, rfl⟩, FrA.sub HBW.out HF.out HB.out HZ1.out HZ2.out⟩
  · obtain ⟨v4, D4, vi, rfl, hai⟩ := hout
    have HAI := Aside0.mk hai
    have T4 := Aside0.mk hai.tb
    have HF := Aside0.mk (FrA.sub (g := g) (b := b) HBW.out hai.fr HB.out HZ1.out HZ2.out)
    have hbx := T4.out.box
    dsimp only at hbx
    obtain ⟨q0, q1, q2⟩ := cells3 hbx
    obtain ⟨A4, n4, c4, e4⟩ : ∃ A4 n4 c4, v4 = .slice A4 n4 c4 := by obtain ⟨A4, c4, e4⟩ := Kd.R_slice T4.out.row; exact ⟨_, _, _, e4⟩
    subst e4
    have bx : w4.heap[g]? = some (.cells (v :: .map (some b) :: .int .i64 (manyOf gs) :: [.bool true]).toArray 47 (0, 0)) := by
      refine hai.fr.oth g _ ?_ ?_ ?_ ?_
      · exact (HBW.out.block g (blk_lt HT.out.box)).trans HT.out.box
      · dsimp only; have := HZ1.out; have := blk_lt HT.out.box; omega
      · dsimp only; have := HZ2.out; have := blk_lt HT.out.box; omega
      · intro c_ fz_ e_; injection e_ with _ e_; exact absurd e_ (by decide)
    have BX := Aside0.mk bx
    obtain ⟨m4, hm4⟩ : ∃ m4 : Int, m4 = manyOf gs' := ⟨_, rfl⟩
    rw [← hm4] at q2
    have HM4 := Aside0.mk hm4
    obtain ⟨r0, r1, r2⟩ := cells3 bx
    have f0 : w4.frozen? ⟨g, 0, none⟩ = false := blk_frozen bx 0
    have f1 : w4.frozen? ⟨g, 1, none⟩ = false := blk_frozen bx 1
    have f2 : w4.frozen? ⟨g, 2, none⟩ = false := blk_frozen bx 2
    clear hai hbx bx hm4
    go_wp2_with fail
    go_ret3
    refine Or.inr ⟨HCLO.out, ?_⟩
    rw [← HST.out]
    have b1 := blk_set (blk_set (blk_set BX.out 0 (.slice A4 n4 c4)) 1 (.map (some bm))) 2 (.int .i64 m4)
    have hg : B ≤ g := HT.out.hg
    refine ⟨vi, .slice A4 n4 c4, bm, D4, rfl, ?_, ?_, ?_⟩
    · refine ⟨by rw [← HM4.out]; simpa using b1, ?_, ?_, HAI.out.tb.pm, hg, HAI.out.tb.hb, ?_⟩
      · exact Kd.R_set (Kd.R_set (Kd.R_set T4.out.row BX.out (by decide) 0 _) (blk_set BX.out 0 _) (by decide) 1 _) (blk_set (blk_set BX.out 0 _) 1 _) (by decide) 2 _
      · have hne : bm ≠ g := by have := HZ2.out; have := blk_lt HT.out.box; omega
        have ks : ∀ {W : World} {n : Nat} (i : Nat) (u : Value), W.ownsMap Tryd.prog 9 (plainElem (H := Unit) Tryd.prog 3) bm n D4 → (W.setCell ⟨g, i, none⟩ u).ownsMap Tryd.prog 9 (plainElem (H := Unit) Tryd.prog 3) bm n D4 := fun {W n} i u h => h.kept (row := some g) ⟨rfl, rfl, rfl, by simp, fun k _ hk => Below.heap_setCell W ⟨g, i, none⟩ u k (by rintro rfl; exact hk rfl)⟩ (by intro e; injection e with e; exact hne e)
        exact ks 2 _ (ks 1 _ (ks 0 _ T4.out.map))
      · exact T4.out.tab.on ((((Below.refl B _).setCell (p := ⟨g, 0, none⟩) hg _).setCell (p := ⟨g, 1, none⟩) hg _).setCell (p := ⟨g, 2, none⟩) hg _)
    · exact Kd.R_set (Kd.R_set (Kd.R_set (Kd.R_lower HAI.out.iv (by have := HBW.out.size; exact this)) BX.out (by decide) 0 _) (blk_set BX.out 0 _) (by decide) 1 _) (blk_set (blk_set BX.out 0 _) 1 _) (by decide) 2 _
    · exact ((HF.out.store hg 0 _).store hg 1 _).store hg 2 _
end Go.Proofs.YtfgglniigeagdaaDoor.Cn
namespace Go.Proofs.YtfgglniigeagdaaDoor.Cn
set_option linter.unusedSimpArgs false
set_option linter.unusedVariables false
open Go.RowKit Go.Maps Go.Proofs.YtfgglniigeagdaaDoorW.PrintWords Go.Proofs.YtfgglniigeagdaaDoorW.PrintLast Go.Proofs.YtfgglniigeagdaaDoorW.PrintMore Go.Proofs.YtfgglniigeagdaaDoor.QD
end Go.Proofs.YtfgglniigeagdaaDoor.Cn
namespace Go.Proofs.YtfgglniigeagdaaDoor.Cn
set_option linter.unusedSimpArgs false
set_option linter.unusedVariables false
open Go.RowKit Go.Maps Go.Proofs.YtfgglniigeagdaaDoorW.PrintWords Go.Proofs.YtfgglniigeagdaaDoorW.PrintLast Go.Proofs.YtfgglniigeagdaaDoorW.PrintMore Go.Proofs.YtfgglniigeagdaaDoor.QD
end Go.Proofs.YtfgglniigeagdaaDoor.Cn
namespace Go.Proofs.YtfgglniigeagdaaDoor.QD
open Go.RowKit Go.Proofs.YtfgglniigeagdaaDoorW.PrintWords Go.Proofs.YtfgglniigeagdaaDoorW.PrintLast Go.Proofs.YtfgglniigeagdaaDoorW.PrintMore
attribute [local go_sem] max2_int min2_int max_two min_two max_three min_three max_four min_four 
set_option linter.unusedVariables false
set_option linter.unusedSimpArgs false
def types_Count.l0 : Nat → Int → List (S62) → Int → Int → Option (Int)
  | 0, _, _, _, _ => none
  | k + 1, x3, x6, x7, x8 => if x8 < x7 then (if 0 ≤ x8 then (if x8 < (x6.length : Int) then (types_Count.l0 k (wrap64 (x3 + (((rd_T62 x6 x8).f0).length : Int))) x6 x7 (wrap64 (x8 + 1))) else (none)) else (none)) else (some x3)
def types_Count.f (k : Nat) (l0 : List (S62)) : Option (Int) := types_Count.l0 k 0 l0 (l0.length : Int) 0
set_option maxHeartbeats 8000000 in
set_option maxRecDepth 100000 in
theorem types_Count.calls (k : Nat) (A0 : Option Addr) (c0 : Nat) (l0 : List (S62)) (r : Int) (w : World) (hr0 : Kd.C k62 w A0 l0.length l0) (hc0 : l0.length ≤ c0) (h : types_Count.f k l0 = some r) :
    Calls Tryd.prog 39 #[.slice A0 l0.length c0] w fun e w' => e = .returned (.int .i64 r) ∧ Below w.heap.size w w' := by
  have hu62 := Tryd.underlying62
  have HR0 := Aside0.mk hr0
  have HC0 := Aside0.mk hc0
  clear hr0 hc0
  have HB := Aside0.mk (Below.refl w.heap.size w)
  have H : (types_Count.l0 k 0 l0 (l0.length : Int) 0) = some r := h
  clear h
  have H' := Aside0.mk H
  clear H
  go_enter Tryd.func39, Tryd.ntmps39
  go_wp2
  go_loopg [3, 8] k (fun kq v3 v8 w' => ∃ (x3_1 : Int) (x8_1 : Int), v3 = .int .i64 x3_1 ∧ v8 = .int .i64 x8_1 ∧ Aside0 (types_Count.l0 kq x3_1 l0 (l0.length : Int) x8_1 = some r) ∧ Aside0 (kq ≤ k) ∧ Aside0 (Below w.heap.size w w'))
  case atStart => exact ⟨(0), (0), (by first | rfl | (simp; done) | (simp [*]; done)), (by first | rfl | (simp; done) | (simp [*]; done)), H', ⟨Nat.le_refl _⟩, ⟨by repeat (first | (with_reducible first | exact HB.out | apply below_alloc | apply pw_below_drewN | apply below_drew1) | exact HB.out)⟩⟩
  case round =>
    clear H'
    obtain ⟨x3_1, x8_1, rfl, rfl, HA, HK1, HB⟩ := hrel
    cases gk with
    | zero => exact absurd HA.out (by simp [types_Count.l0])
    | succ k1 =>
      have H := HA.out
      clear HA
      simp only [types_Count.l0] at H
      by_cases c2 : x8_1 < (l0.length : Int)
      · rw [if_pos c2] at H
        have c2b0 : decide (x8_1 < (l0.length : Int)) = true := decide_eq_true c2
        clear c2
        by_cases c3 : 0 ≤ x8_1
        · rw [if_pos c3] at H
          have c3b0 : decide (0 ≤ x8_1) = true := decide_eq_true c3
          clear c3
          by_cases c4 : x8_1 < (l0.length : Int)
          · rw [if_pos c4] at H
            have c4b0 : decide (x8_1 < (l0.length : Int)) = true := decide_eq_true c4
            clear c4
            have H' := Aside0.mk H
            clear H
            have p101 : 0 ≤ (x8_1 : Int) := of_decide_eq_true (by first | (with_reducible assumption) | assumption)
            have q101 : x8_1 < (l0.length : Int) := of_decide_eq_true (by first | (with_reducible assumption) | assumption)
            obtain ⟨ad101, A101_0, c101_0, e101, hx101_0, hx101_1, hl101_0, hi101_0⟩ := at_T62 HR0.out x8_1 p101 q101
            cases e101
            replace hx101_0 := (HB.out.cell (World.block_lt_of_cell? w _ hx101_0)).trans hx101_0
            replace hx101_1 := (HB.out.cell (World.block_lt_of_cell? w _ hx101_1)).trans hx101_1
            have HR101_0 := Aside0.mk hi101_0
            have HC101_0 := Aside0.mk hl101_0
            clear hi101_0 hl101_0
            replace p101 := eq_true p101
            replace q101 := eq_true q101
            go_wp2_with (first | ((with_reducible refine gate_dst (N := 5) rfl ?_); refine box_event ?hg (N := 5) ?hd (cs := #[.slice none 0 0, .bool false]) (t := 62) ?hr ?_; (case hd => rfl); (case hg => rfl); (case hr => first | (go_simp; done) | (go_simp; rfl)); intro gb102 hg w5 hbox hb; have n0_ := Aside0.mk (below_step (by repeat (first | (with_reducible first | exact HB.out | apply below_alloc | apply pw_below_drewN | apply below_drew1) | exact HB.out)) hb); have n1_ := Aside0.mk (hbox); have n2_ := Aside0.mk ((by rw [hg]; exact (below_size (by repeat (first | (with_reducible first | exact HB.out | apply below_alloc | apply pw_below_drewN | apply below_drew1) | exact HB.out))) : w.heap.size ≤ gb102)); have n3_ := Aside0.mk ((by rw [hg]; exact (below_size (by repeat (first | (with_reducible first | exact HB.out | apply below_alloc | apply pw_below_drewN | apply below_drew1) | exact HB.out))) : w.heap.size ≤ gb102)); clear HB; have HB := n0_; have BK102 := n1_; have GW102 := n2_; have GE102 := n3_; clear n0_ n1_ n2_ n3_; clear hb hbox hg; have hcz6_0 : w5.cell? ⟨gb102, 0, none⟩ = some (.slice none 0 0) := (blk_cell BK102.out 0).trans rfl; have hcz6_1 : w5.cell? ⟨gb102, 1, none⟩ = some (.bool false) := (blk_cell BK102.out 1).trans rfl; have hfz6_0 := blk_frozen BK102.out 0; have hfz6_1 := blk_frozen BK102.out 1))
            go_roundg k1
            case measure => have := HK1.out; omega
            case rel => exact ⟨(wrap64 (x3_1 + (((rd_T62 l0 x8_1).f0).length : Int))), (wrap64 (x8_1 + 1)), (by first | rfl | (simp; done) | (simp [*]; done)), (by first | rfl | (simp; done) | (simp [*]; done)), H', ⟨by have := HK1.out; omega⟩, ⟨by repeat (first | (with_reducible first | exact HB.out | apply below_alloc | apply pw_below_drewN | apply below_drew1 | refine below_set ?_ GE102.out) | exact HB.out)⟩⟩
          · rw [if_neg c4] at H
            exact absurd H (by simp)
        · rw [if_neg c3] at H
          exact absurd H (by simp)
      · rw [if_neg c2] at H
        have c2b0 : decide (x8_1 < (l0.length : Int)) = false := decide_eq_false c2
        clear c2
        obtain rfl := Option.some.inj H
        go_wp2
        go_ret
        exact ⟨by first | rfl | (simp [errW_none, errW_some] <;> rfl) | (simp [*, errW_none, errW_some] <;> rfl), by repeat (first | (with_reducible first | exact HB.out | apply below_alloc | apply pw_below_drewN | apply below_drew1) | exact HB.out)⟩
end Go.Proofs.YtfgglniigeagdaaDoor.QD
namespace Go.Proofs.YtfgglniigeagdaaDoor.Cn
set_option linter.unusedSimpArgs false
set_option linter.unusedVariables false
open Go.RowKit Go.Maps Go.Proofs.YtfgglniigeagdaaDoorW.PrintWords Go.Proofs.YtfgglniigeagdaaDoorW.PrintLast Go.Proofs.YtfgglniigeagdaaDoorW.PrintMore Go.Proofs.YtfgglniigeagdaaDoor.QD
/-- Adding never fails where there is room. -/
theorem addTo_room (most : Int) (l : List S62) (gs : List (List S53)) (ids : List Int) (h : manyOf gs + tcount l ≤ most) : ∃ gs' ids', addTo most (gs, ids) l = some (gs', ids') ∧ manyOf gs' ≤ manyOf gs + tcount l ∧ ids'.length = ids.length + tcount l ∧ gs'.length ≤ gs.length + l.length := by
  induction l generalizing gs ids with
  | nil => exact ⟨gs, ids, rfl, by simp [tcount], by simp [tcount], by simp⟩
  | cons r l ih =>
    have ht : tcount (r :: l) = r.f0.length + tcount l := by simp [tcount]
    rw [ht] at h ⊢
    simp only [addTo]
    unfold addStep
    dsimp only
    cases hf : findK gs (ownG ids r) with
    | some p =>
      obtain ⟨gs', ids', h1, h2, h3, h4⟩ := ih gs (ids ++ idsFrom (firstOf gs p) (ownG ids r).length) (by omega)
      refine ⟨gs', ids', h1, by omega, ?_, by simp; omega⟩
      rw [h3, List.length_append, idsFrom_length, ownG_length]
      omega
    | none =>
      dsimp only
      rw [if_neg (by rw [ownG_length]; omega)]
      obtain ⟨gs', ids', h1, h2, h3, h4⟩ := ih (gs ++ [ownG ids r]) (ids ++ idsFrom (manyOf gs) (ownG ids r).length) (by rw [manyOf_snoc, ownG_length]; omega)
      rw [manyOf_snoc, ownG_length] at h2
      rw [List.length_append, idsFrom_length, ownG_length] at h3
      rw [List.length_append, List.length_singleton] at h4
      exact ⟨gs', ids', h1, by omega, by omega, by simp; omega⟩
theorem tcount_drop (l : List S62) (j : Nat) (r : S62) (h : l[j]? = some r) : tcount (l.drop j) = r.f0.length + tcount (l.drop (j + 1)) := by
  obtain ⟨hj, rfl⟩ := List.getElem?_eq_some_iff.1 h
  rw [List.drop_eq_getElem_cons hj]
  unfold tcount
  rw [List.map_cons, List.sum_cons]
theorem step_l0 (m : Nat) (n : Int) (l : List S62) (L j : Int) (h1 : j < L) (h2 : 0 ≤ j) (h3 : j < l.length) : types_Count.l0 (m + 1) n l L j = types_Count.l0 m (wrap64 (n + ((rd_T62 l j).f0.length : Int))) l L (wrap64 (j + 1)) := by
  rw [types_Count.l0, if_pos h1, if_pos h2, if_pos h3]
theorem end_l0 (m : Nat) (n : Int) (l : List S62) (L j : Int) (h1 : ¬ j < L) : types_Count.l0 (m + 1) n l L j = some n := by
  rw [types_Count.l0, if_neg h1]
theorem count_l0 (l : List S62) (L : Nat) (hL : L = l.length) (hl : L ≤ 1099511627776) (m j : Nat) (hm : j + m = L) (n : Int) (h0 : 0 ≤ n) (hn : n + (tcount (l.drop j) : Int) ≤ 2199023255552) : types_Count.l0 (m + 1) n l (L : Int) (j : Int) = some (n + (tcount (l.drop j) : Int)) := by
  induction m generalizing j n with
  | zero =>
    have : j = L := by omega
    subst this
    rw [end_l0 _ _ _ _ _ (Int.lt_irrefl _), hL, List.drop_length]
    simp [tcount]
  | succ m ih =>
    have hlt : j < l.length := by omega
    have hr := rd_RT_at l j hlt
    have hd := tcount_drop l j _ hr
    obtain ⟨q, hq⟩ : ∃ q : Nat, q = (rd_T62 l (j : Int)).f0.length := ⟨_, rfl⟩
    obtain ⟨t1, ht1⟩ : ∃ t1 : Nat, t1 = tcount (l.drop (j + 1)) := ⟨_, rfl⟩
    rw [← hq, ← ht1] at hd
    rw [hd] at hn ⊢
    have e1 : (j : Int) < (L : Int) := by omega
    have e2 : (0 : Int) ≤ (j : Int) := Int.natCast_nonneg j
    have e3 : (j : Int) < (l.length : Int) := by omega
    have e4 : n + (q : Int) + (t1 : Int) = n + ((q + t1 : Nat) : Int) := by omega
    have a1 : j + 1 + m = L := by omega
    have a2 : 0 ≤ n + (q : Int) := by omega
    have a3 : n + (q : Int) + (t1 : Int) ≤ 2199023255552 := by omega
    have w1 : wrap64 (n + (q : Int)) = n + (q : Int) := by unfold wrap64; omega
    have w2 : wrap64 ((j : Int) + 1) = ((j + 1 : Nat) : Int) := by unfold wrap64; omega
    rw [ht1] at a3
    have h3 := ih (j + 1) a1 (n + (q : Int)) a2 a3
    rw [step_l0 (m + 1) n l L j e1 e2 e3, ← hq, w1, w2, h3, ← ht1, e4]
theorem count_eq (l : List S62) (ht : tcount l ≤ 1099511627776) (hl : l.length ≤ 1099511627776) : types_Count.f (l.length + 1) l = some (tcount l : Int) := by
  unfold types_Count.f
  have h := count_l0 l l.length rfl hl l.length 0 (Nat.zero_add _) 0 (Int.le_refl _) (by rw [List.drop_zero]; omega)
  rw [List.drop_zero, Int.zero_add] at h
  exact h
theorem count_calls (A : Option Addr) (c : Nat) (l : List S62) (w : World) (hC : Kd.C k62 w A l.length l) (hc : l.length ≤ c) (ht : tcount l ≤ 1099511627776) (hl : l.length ≤ 1099511627776) :
    Calls Tryd.prog 39 #[.slice A l.length c] w fun e w' => e = .returned (.int .i64 (tcount l : Int)) ∧ Below w.heap.size w w' := types_Count.calls (l.length + 1) A c l _ w hC hc (count_eq l ht hl)
/-- The ids of two lists in a table of their own. -/
noncomputable def oneIds (a b : List S62) : List Int × List Int :=
  match addTo 9223372036854775807 ([], []) a with
  | none => ([], [])
  | some (g1, i1) => match addTo 9223372036854775807 (g1, []) b with
    | none => ([], [])
    | some (g2, i2) => (i1, i2)
open Classical in
/-- What canon.One answers. -/
noncomputable def oneM (a b : List S62) (x y : Int) : Bool × Int :=
  if Clo a ∧ Clo b then
    if 0 ≤ x ∧ x < tcount a ∧ 0 ≤ y ∧ y < tcount b then (rd (oneIds a b).1 x == rd (oneIds a b).2 y, 0) else (false, 1)
  else (false, 50)
end Go.Proofs.YtfgglniigeagdaaDoor.Cn
namespace Go.Proofs.YtfgglniigeagdaaDoor.Cn
set_option linter.unusedSimpArgs false
open Go.RowKit Go.Maps Go.Proofs.YtfgglniigeagdaaDoorW.PrintWords Go.Proofs.YtfgglniigeagdaaDoorW.PrintLast Go.Proofs.YtfgglniigeagdaaDoor.QD
/-- f's texts can be told from what follows them. -/
def Dec {α : Type} (f : α → List UInt8) : Prop := ∀ a b s t, f a ++ s = f b ++ t → a = b ∧ s = t
theorem split_at (x : UInt8) (l1 l2 s t : List UInt8) (h1 : x ∉ l1) (h2 : x ∉ l2) (h : l1 ++ x :: s = l2 ++ x :: t) : l1 = l2 ∧ s = t := by
  induction l1 generalizing l2 with
  | nil =>
    cases l2 with
    | nil => simp at h; exact ⟨rfl, h⟩
    | cons y l2 => simp at h; exact absurd h.1 (fun e => h2 (by simp [e]))
  | cons y l1 ih =>
    cases l2 with
    | nil => simp at h; exact absurd h.1 (fun e => h1 (by simp [e]))
    | cons z l2 =>
      simp at h
      obtain ⟨rfl, h⟩ := h
      obtain ⟨rfl, rfl⟩ := ih l2 (fun hm => h1 (by simp [hm])) (fun hm => h2 (by simp [hm])) h
      exact ⟨rfl, rfl⟩
def valD (l : List UInt8) : Nat := l.foldl (fun n c => 10 * n + (c.toNat - 48)) 0
theorem digit_toNat (d : Nat) (h : d < 10) : (UInt8.ofNat (48 + d)).toNat = 48 + d := by
  rw [UInt8.toNat_ofNat']
  omega
theorem valD_dec (u : Nat) : valD (Lib.decDigits u) = u := by
  induction u using Nat.strongRecOn with
  | ind u ih =>
    rw [Lib.decDigits]
    split
    · rename_i h
      simp only [valD, List.foldl_cons, List.foldl_nil]
      rw [digit_toNat u h]
      omega
    · rename_i h
      have h1 := ih (u / 10) (by omega)
      unfold valD at h1 ⊢
      rw [List.foldl_append, h1]
      simp only [List.foldl_cons, List.foldl_nil]
      rw [digit_toNat (u % 10) (by omega)]
      omega
theorem dec_digit (u : Nat) : ∀ c ∈ Lib.decDigits u, 48 ≤ c.toNat ∧ c.toNat ≤ 57 := by
  induction u using Nat.strongRecOn with
  | ind u ih =>
    rw [Lib.decDigits]
    split
    · rename_i h
      intro c hc
      rw [List.mem_singleton.1 hc, digit_toNat u h]
      omega
    · rename_i h
      intro c hc
      rcases List.mem_append.1 hc with hc | hc
      · exact ih (u / 10) (by omega) c hc
      · rw [List.mem_singleton.1 hc, digit_toNat (u % 10) (by omega)]
        omega
theorem dec_ne (u : Nat) : ∃ c l, Lib.decDigits u = c :: l ∧ 48 ≤ c.toNat := by
  have h := Lib.decDigits_length u
  have h1 := Lib.nDigits_pos u
  cases e : Lib.decDigits u with
  | nil => rw [e] at h; simp at h; omega
  | cons c l => exact ⟨c, l, rfl, (dec_digit u c (by rw [e]; simp)).1⟩
theorem itoa_no (i : Int) (x : UInt8) (hx : x.toNat < 45) : x ∉ Lib.itoa i := by
  intro h
  unfold Lib.itoa at h
  split at h
  · rcases List.mem_cons.1 h with h | h
    · subst h; revert hx; decide
    · have := dec_digit _ _ h; omega
  · have := dec_digit _ _ h; omega
theorem itoa_inj (i j : Int) (h : Lib.itoa i = Lib.itoa j) : i = j := by
  unfold Lib.itoa at h
  split at h <;> split at h
  · injection h with _ h
    have := congrArg valD h
    rw [valD_dec, valD_dec] at this
    omega
  · obtain ⟨c, l, e, hc⟩ := dec_ne j.toNat
    rw [e] at h
    injection h with h _
    subst h
    exact absurd hc (by decide)
  · obtain ⟨c, l, e, hc⟩ := dec_ne i.toNat
    rw [e] at h
    injection h with h _
    subst h
    exact absurd hc (by decide)
  · have := congrArg valD h
    rw [valD_dec, valD_dec] at this
    omega
theorem itoa_head (i : Int) : ∃ c l, Lib.itoa i = c :: l ∧ c ≠ 43 := by
  unfold Lib.itoa
  split
  · exact ⟨45, _, rfl, by decide⟩
  · obtain ⟨c, l, e, hc⟩ := dec_ne i.toNat
    exact ⟨c, l, e, by rintro rfl; revert hc; decide⟩
theorem dec_num : Dec numT := by
  intro a b s t h
  simp only [numT, List.append_assoc, List.cons_append, List.nil_append] at h
  obtain ⟨h1, h2⟩ := split_at 32 _ _ _ _ (itoa_no a 32 (by decide)) (itoa_no b 32 (by decide)) h
  exact ⟨itoa_inj a b h1, h2⟩
theorem dec_flagnum (a b : Bool) (i j : Int) (s t : List UInt8) (h : flagT a ++ (numT i ++ s) = flagT b ++ (numT j ++ t)) : a = b ∧ i = j ∧ s = t := by
  obtain ⟨c, l, e, hc⟩ := itoa_head i
  obtain ⟨c', l', e', hc'⟩ := itoa_head j
  cases a <;> cases b
  · obtain ⟨h1, h2⟩ := dec_num _ _ _ _ h
    exact ⟨rfl, h1, h2⟩
  · simp only [flagT, numT, e, List.cons_append, List.nil_append] at h
    injection h with h _
    exact absurd h hc
  · simp only [flagT, numT, e', List.cons_append, List.nil_append] at h
    injection h with h _
    exact absurd h.symm hc'
  · simp only [flagT, List.cons_append, List.nil_append] at h
    injection h with _ h
    obtain ⟨h1, h2⟩ := dec_num _ _ _ _ h
    exact ⟨rfl, h1, h2⟩
theorem dec_val : Dec valT := by
  intro a b s t h
  simp only [valT, List.append_assoc] at h
  obtain ⟨h1, h⟩ := dec_num _ _ _ _ h
  obtain ⟨h2, h3, h4⟩ := dec_flagnum _ _ _ _ _ _ h
  refine ⟨?_, h4⟩
  obtain ⟨a0, a1, a2⟩ := a
  obtain ⟨b0, b1, b2⟩ := b
  simp only at h1 h2 h3
  subst h1 h2 h3
  rfl
theorem dec_field : Dec fieldT := by
  intro a b s t h
  simp only [fieldT, valT, List.append_assoc] at h
  obtain ⟨h1, h2, h⟩ := dec_flagnum _ _ _ _ _ _ h
  obtain ⟨h3, h4, h5⟩ := dec_flagnum _ _ _ _ _ _ h
  refine ⟨?_, h5⟩
  obtain ⟨⟨a0, a1, a2⟩, a3⟩ := a
  obtain ⟨⟨b0, b1, b2⟩, b3⟩ := b
  simp only at h1 h2 h3 h4
  subst h1 h2 h3 h4
  rfl
theorem dec_list {α : Type} (g : α → List UInt8) (hg : Dec g) (l m : List α) (hl : l.length = m.length) (s t : List UInt8) (h : l.flatMap g ++ s = m.flatMap g ++ t) : l = m ∧ s = t := by
  induction l generalizing m with
  | nil =>
    cases m with
    | nil => exact ⟨rfl, by simpa using h⟩
    | cons y m => simp at hl
  | cons x l ih =>
    cases m with
    | nil => simp at hl
    | cons y m =>
      simp only [List.flatMap_cons, List.append_assoc] at h
      obtain ⟨e1, h1⟩ := hg _ _ _ _ h
      obtain ⟨e2, h2⟩ := ih m (by simpa using hl) h1
      exact ⟨by rw [e1, e2], h2⟩
theorem dec_nlist {α : Type} (g : α → List UInt8) (hg : Dec g) (l m : List α) (s t : List UInt8) (h : numT l.length ++ (l.flatMap g ++ s) = numT m.length ++ (m.flatMap g ++ t)) : l = m ∧ s = t := by
  obtain ⟨h1, h⟩ := dec_num _ _ _ _ h
  exact dec_list g hg l m (by omega) s t h
theorem dec_sub : Dec subT := by
  intro a b s t h
  simp only [subT, List.append_assoc] at h
  obtain ⟨h0, hn, h⟩ := dec_flagnum _ _ _ _ _ _ h
  obtain ⟨h1, h⟩ := dec_list numT dec_num _ _ (by omega) _ _ h
  obtain ⟨h2, h⟩ := dec_num _ _ _ _ h
  obtain ⟨h3, h⟩ := dec_nlist valT dec_val _ _ _ _ h
  obtain ⟨h4, h⟩ := dec_nlist valT dec_val _ _ _ _ h
  obtain ⟨h5, h⟩ := dec_nlist fieldT dec_field _ _ _ _ h
  refine ⟨?_, h⟩
  obtain ⟨a0, a1, ⟨a2, a3, a4, a5⟩⟩ := a
  obtain ⟨b0, b1, ⟨b2, b3, b4, b5⟩⟩ := b
  simp only at h0 h1 h2 h3 h4 h5
  subst h0 h1 h2 h3 h4 h5
  rfl
theorem subT_ne (s : S53) : subT s ≠ [] := by
  obtain ⟨c, l, e, _⟩ := itoa_head s.f1.length
  intro h
  have := congrArg List.length h
  simp [subT, numT, e] at this
theorem keyT_inj (l m : List S53) (h : keyT l = keyT m) : l = m := by
  induction l generalizing m with
  | nil =>
    cases m with
    | nil => rfl
    | cons y m =>
      simp only [keyT, List.flatMap_nil, List.flatMap_cons] at h
      have := List.append_eq_nil_iff.1 h.symm
      exact absurd this.1 (subT_ne y)
  | cons x l ih =>
    cases m with
    | nil =>
      simp only [keyT, List.flatMap_nil, List.flatMap_cons] at h
      have := List.append_eq_nil_iff.1 h
      exact absurd this.1 (subT_ne x)
    | cons y m =>
      simp only [keyT, List.flatMap_cons] at h
      obtain ⟨e1, h1⟩ := dec_sub _ _ _ _ h
      rw [e1, ih m h1]
end Go.Proofs.YtfgglniigeagdaaDoor.Cn
namespace Go.Proofs.YtfgglniigeagdaaDoor.Cn
set_option linter.unusedSimpArgs false
set_option linter.unusedVariables false
open Go.RowKit Go.Maps Go.Proofs.YtfgglniigeagdaaDoorW.PrintWords Go.Proofs.YtfgglniigeagdaaDoorW.PrintLast Go.Proofs.YtfgglniigeagdaaDoorW.PrintMore Go.Proofs.YtfgglniigeagdaaDoor.QD
/-- No two groups are one. -/
def Dist (gs : List (List S53)) : Prop := ∀ (i j : Nat) (x : List S53), gs[i]? = some x → gs[j]? = some x → i = j
theorem Dist.nil : Dist [] := fun i j x h => by simp at h
theorem Dist.snoc {gs : List (List S53)} {o : List S53} (h : Dist gs) (hn : ∀ x ∈ gs, x ≠ o) : Dist (gs ++ [o]) := by
  intro i j x hi hj
  have key : ∀ (i : Nat), (gs ++ [o])[i]? = some x → (gs[i]? = some x) ∨ (i = gs.length ∧ x = o) := by
    intro i hi
    rcases Nat.lt_or_ge i gs.length with h1 | h1
    · rw [List.getElem?_append_left h1] at hi; exact .inl hi
    · rw [List.getElem?_append_right h1] at hi
      have h2 := (List.getElem?_eq_some_iff.1 hi).1
      simp at h2
      have h3 : i = gs.length := by omega
      subst h3
      simp at hi
      exact .inr ⟨rfl, hi.symm⟩
  rcases key i hi with h1 | ⟨h1, e1⟩ <;> rcases key j hj with h2 | ⟨h2, e2⟩
  · exact h i j x h1 h2
  · exact absurd e2 (hn x (List.mem_of_getElem? h1))
  · exact absurd e1 (hn x (List.mem_of_getElem? h2))
  · omega
theorem firstOf_append (gs t : List (List S53)) (i : Nat) (h : i ≤ gs.length) : firstOf (gs ++ t) i = firstOf gs i := by
  unfold firstOf
  rw [List.take_append_of_le_length h]
theorem firstOf_length (gs : List (List S53)) : firstOf gs gs.length = manyOf gs := by unfold firstOf; rw [List.take_length]
theorem idsFrom_get (n : Int) (k o : Nat) (h : o < k) : (idsFrom n k)[o]? = some (n + o) := by
  unfold idsFrom
  rw [List.getElem?_map, List.getElem?_range h]
  rfl
/-- What adding a group comes to. -/
theorem addStep_char {most : Int} {gs0 gs' : List (List S53)} {ids0 ids' : List Int} {r : S62} (h : addStep most (gs0, ids0) r = some (gs', ids')) (hd : Dist gs0) :
    Dist gs' ∧ (∃ t, gs' = gs0 ++ t) ∧ ∃ idx, gs'[idx]? = some (ownG ids0 r) ∧ ids' = ids0 ++ idsFrom (firstOf gs' idx) r.f0.length := by
  unfold addStep at h
  dsimp only at h
  cases hf : findK gs0 (ownG ids0 r) with
  | some i =>
    rw [hf] at h
    simp only [Option.some.injEq, Prod.mk.injEq] at h
    obtain ⟨rfl, rfl⟩ := h
    obtain ⟨x, hx, hk⟩ := findK_some hf
    have := keyT_inj _ _ hk
    subst this
    exact ⟨hd, ⟨[], by simp⟩, i, hx, by rw [ownG_length]⟩
  | none =>
    rw [hf] at h
    dsimp only at h
    split at h
    · cases h
    · simp only [Option.some.injEq, Prod.mk.injEq] at h
      obtain ⟨rfl, rfl⟩ := h
      have hn := findK_none hf
      refine ⟨hd.snoc (fun x hx e => hn x hx (by rw [e])), ⟨_, rfl⟩, gs0.length, by simp, ?_⟩
      rw [firstOf_append _ _ _ (Nat.le_refl _), firstOf_length, ownG_length]
/-- What adding comes to. -/
theorem addTo_char (most : Int) (l : List S62) : ∀ (gs0 gs' : List (List S53)) (ids0 ids' : List Int), addTo most (gs0, ids0) l = some (gs', ids') → Dist gs0 →
    Dist gs' ∧ (∃ t, gs' = gs0 ++ t) ∧ (∃ t, ids' = ids0 ++ t ∧ t.length = tcount l) ∧
    ∀ (j : Nat) (r : S62), l[j]? = some r → ∃ idx, gs'[idx]? = some (ownG (ids'.take (ids0.length + tcount (l.take j))) r) ∧ ∀ o, o < r.f0.length → ids'[ids0.length + tcount (l.take j) + o]? = some (firstOf gs' idx + o) := by
  induction l with
  | nil =>
    intro gs0 gs' ids0 ids' h hd
    simp only [addTo, Option.some.injEq, Prod.mk.injEq] at h
    obtain ⟨rfl, rfl⟩ := h
    exact ⟨hd, ⟨[], by simp⟩, ⟨[], by simp, by simp [tcount]⟩, fun j r hj => by simp at hj⟩
  | cons r l ih =>
    intro gs0 gs' ids0 ids' h hd
    simp only [addTo] at h
    cases hs : addStep most (gs0, ids0) r with
    | none => rw [hs] at h; cases h
    | some st =>
      obtain ⟨gs1, ids1⟩ := st
      rw [hs] at h
      simp only [Option.bind_some] at h
      obtain ⟨hd1, ⟨t1, ht1⟩, idx, hx, hi⟩ := addStep_char hs hd
      obtain ⟨hd2, ⟨t2, ht2⟩, ⟨u, hu, hul⟩, hall⟩ := ih gs1 gs' ids1 ids' h hd1
      have hl1 : ids1.length = ids0.length + r.f0.length := by rw [hi, List.length_append, idsFrom_length]
      refine ⟨hd2, ⟨t1 ++ t2, by rw [ht2, ht1, List.append_assoc]⟩, ⟨idsFrom (firstOf gs1 idx) r.f0.length ++ u, by rw [hu, hi, List.append_assoc], ?_⟩, ?_⟩
      · rw [List.length_append, idsFrom_length, hul]; simp [tcount]
      · intro j q hj
        cases j with
        | zero =>
          simp at hj
          subst hj
          have hidx : idx < gs1.length := (List.getElem?_eq_some_iff.1 hx).1
          refine ⟨idx, ?_, fun o ho => ?_⟩
          · have e : ids'.take (ids0.length + tcount ((r :: l).take 0)) = ids0 := by
              rw [hu, hi, List.append_assoc]
              simp [tcount]
            rw [e, ht2, List.getElem?_append_left hidx]
            exact hx
          · have e : ids0.length + tcount ((r :: l).take 0) + o = ids0.length + o := by simp [tcount]
            rw [e, hu, hi, List.append_assoc, List.getElem?_append_right (by omega), List.getElem?_append_left (by rw [idsFrom_length]; omega)]
            have e2 : ids0.length + o - ids0.length = o := by omega
            rw [e2, idsFrom_get _ _ _ ho, ht2, firstOf_append _ _ _ (Nat.le_of_lt hidx)]
        | succ j =>
          rw [List.getElem?_cons_succ] at hj
          obtain ⟨idx', h1, h2⟩ := hall j q hj
          have e : ids1.length + tcount (l.take j) = ids0.length + tcount ((r :: l).take (j + 1)) := by
            rw [hl1, List.take_succ_cons]
            simp [tcount]
            omega
          rw [e] at h1 h2
          exact ⟨idx', h1, h2⟩
/-- Adding a list again: the same ids, and nothing new. -/
theorem addTo_again (most m : Int) (l : List S62) (gs0 gs' : List (List S53)) (ids : List Int) (h : addTo most (gs0, []) l = some (gs', ids)) (hd : Dist gs0) : addTo m (gs', []) l = some (gs', ids) := by
  obtain ⟨hd', _, ⟨t, ht, htl⟩, hall⟩ := addTo_char most l gs0 gs' [] ids h hd
  rw [List.nil_append] at ht
  subst ht
  have key : ∀ k, k ≤ l.length → addTo m (gs', []) (l.take k) = some (gs', ids.take (tcount (l.take k))) := by
    intro k
    induction k with
    | zero => intro _; simp [addTo, tcount]
    | succ k ih =>
      intro hk
      have hr : l[k]? = some l[k] := List.getElem?_eq_getElem (by omega)
      rw [addTo_take m _ l k _ hr, ih (by omega)]
      simp only [Option.bind_some]
      obtain ⟨idx, h1, h2⟩ := hall k _ hr
      simp only [List.length_nil, Nat.zero_add] at h1 h2
      unfold addStep
      dsimp only
      cases hf : findK gs' (ownG (ids.take (tcount (l.take k))) l[k]) with
      | none => exact absurd rfl (findK_none hf _ (List.mem_of_getElem? h1))
      | some i =>
        obtain ⟨x, hx, hkx⟩ := findK_some hf
        have := keyT_inj _ _ hkx
        subst this
        have hi := hd' i idx _ hx h1
        subst hi
        dsimp only
        congr 2
        have htk := tcount_take l k _ hr
        have hle := tcount_take_le l k _ hr
        rw [htk, ownG_length]
        apply List.ext_getElem?
        intro p
        rcases Nat.lt_or_ge p (tcount (l.take k)) with hp | hp
        · rw [List.getElem?_append_left (by rw [List.length_take]; omega), List.getElem?_take_of_lt hp, List.getElem?_take_of_lt (by omega)]
        · rw [List.getElem?_append_right (by rw [List.length_take]; omega)]
          have e : (ids.take (tcount (l.take k))).length = tcount (l.take k) := by rw [List.length_take]; omega
          rw [e]
          rcases Nat.lt_or_ge (p - tcount (l.take k)) l[k].f0.length with ho | ho
          · rw [idsFrom_get _ _ _ ho, List.getElem?_take_of_lt (by omega)]
            have := h2 _ ho
            have e2 : tcount (l.take k) + (p - tcount (l.take k)) = p := by omega
            rw [e2] at this
            exact this.symm
          · rw [List.getElem?_eq_none (by rw [idsFrom_length]; omega), List.getElem?_eq_none (by rw [List.length_take]; omega)]
  have := key l.length (Nat.le_refl _)
  rw [List.take_length] at this
  rw [this, ← htl, List.take_length]
/-- The groups' ids lie apart. -/
theorem firstOf_mono (gs : List (List S53)) (i j : Nat) (x : List S53) (h : i < j) (hx : gs[i]? = some x) : firstOf gs i + x.length ≤ firstOf gs j := by
  have hx' : (gs.take j)[i]? = some x := by rw [List.getElem?_take_of_lt h]; exact hx
  have h1 := (firstOf_le (gs.take j) i x hx').2
  have e : firstOf (gs.take j) i = firstOf gs i := by
    unfold firstOf
    rw [List.take_take, Nat.min_eq_left (Nat.le_of_lt h)]
  rw [e] at h1
  exact h1
theorem id_eq_iff {gs : List (List S53)} {i j : Nat} {x y : List S53} {o p : Nat} (hx : gs[i]? = some x) (hy : gs[j]? = some y) (ho : o < x.length) (hp : p < y.length) : firstOf gs i + (o : Int) = firstOf gs j + (p : Int) ↔ i = j ∧ o = p := by
  constructor
  · intro h
    rcases Nat.lt_trichotomy i j with hl | rfl | hl
    · have := firstOf_mono gs i j x hl hx; omega
    · exact ⟨rfl, by omega⟩
    · have := firstOf_mono gs j i y hl hy; omega
  · rintro ⟨rfl, rfl⟩; rfl
/-- Where a type stands in a list of groups. -/
theorem place_of (l : List S62) (k p : Nat) (hk : k ≤ l.length) (hp : p < tcount (l.take k)) : ∃ (j : Nat) (r : S62) (o : Nat), j < k ∧ l[j]? = some r ∧ p = tcount (l.take j) + o ∧ o < r.f0.length := by
  induction k with
  | zero => simp [tcount] at hp
  | succ k ih =>
    have hr : l[k]? = some l[k] := List.getElem?_eq_getElem (by omega)
    rw [tcount_take l k _ hr] at hp
    rcases Nat.lt_or_ge p (tcount (l.take k)) with h | h
    · obtain ⟨j, r, o, h1, h2, h3, h4⟩ := ih (by omega) h
      exact ⟨j, r, o, by omega, h2, h3, h4⟩
    · exact ⟨k, l[k], p - tcount (l.take k), by omega, hr, by omega, by omega⟩
theorem map_iff {α β γ : Type} {f g : α → β} {f' g' : α → γ} (l m : List α) (h : ∀ a ∈ l, ∀ b ∈ m, (f a = g b ↔ f' a = g' b)) : l.map f = m.map g ↔ l.map f' = m.map g' := by
  induction l generalizing m with
  | nil => cases m <;> simp
  | cons a l ih =>
    cases m with
    | nil => simp
    | cons b m =>
      simp only [List.map_cons, List.cons.injEq]
      rw [h a (by simp) b (by simp), ih m (fun x hx y hy => h x (by simp [hx]) y (by simp [hy]))]
/-- All numbers of a type, as Q says. -/
structure TQ (Q : Int → Prop) (s : S53) : Prop where
  q1 : ∀ h ∈ s.f1, Q h
  q2 : ∀ v ∈ s.f2.f1, v.f0 = 5 → Q v.f2
  q3 : ∀ v ∈ s.f2.f2, v.f0 = 5 → Q v.f2
  q4 : ∀ v ∈ s.f2.f3, v.f0.f0 = 5 → Q v.f0.f2
theorem mvp_iff {f g f' g' : Int → Int} {v u : S74} (h : v.f0 = 5 → u.f0 = 5 → (f v.f2 = g u.f2 ↔ f' v.f2 = g' u.f2)) : mvp f v = mvp g u ↔ mvp f' v = mvp g' u := by
  unfold mvp
  by_cases hv : v.f0 = 5 <;> by_cases hu : u.f0 = 5
  · simp only [hv, hu, if_true, S74.mk.injEq, h hv hu, true_and]
  · simp only [hv, hu, if_true, if_false, S74.mk.injEq, Ne.symm hu, false_and]
  · simp only [hv, hu, if_true, if_false, S74.mk.injEq, false_and]
  · simp only [hv, hu, if_false, S74.mk.injEq]
theorem mfp_iff {f g f' g' : Int → Int} {v u : S118} (h : v.f0.f0 = 5 → u.f0.f0 = 5 → (f v.f0.f2 = g u.f0.f2 ↔ f' v.f0.f2 = g' u.f0.f2)) : mfp f v = mfp g u ↔ mfp f' v = mfp g' u := by
  unfold mfp
  simp only [S118.mk.injEq]
  rw [mvp_iff h]
theorem mroll_iff {a b a' b' : List Int} {s t : S53} {P Q : Int → Prop} (hs : TQ P s) (ht : TQ Q t) (h : ∀ x y, P x → Q y → (rollF a x = rollF b y ↔ rollF a' x = rollF b' y)) : mroll a s = mroll b t ↔ mroll a' s = mroll b' t := by
  simp only [mroll_eq, S53.mk.injEq, S51.mk.injEq]
  rw [map_iff (f := rollF a) (g := rollF b) (f' := rollF a') (g' := rollF b') s.f1 t.f1 (fun x hx y hy => h x y (hs.q1 x hx) (ht.q1 y hy)),
    map_iff (f := mvp (rollF a)) (g := mvp (rollF b)) (f' := mvp (rollF a')) (g' := mvp (rollF b')) s.f2.f1 t.f2.f1 (fun x hx y hy => mvp_iff fun e e' => h _ _ (hs.q2 x hx e) (ht.q2 y hy e')),
    map_iff (f := mvp (rollF a)) (g := mvp (rollF b)) (f' := mvp (rollF a')) (g' := mvp (rollF b')) s.f2.f2 t.f2.f2 (fun x hx y hy => mvp_iff fun e e' => h _ _ (hs.q3 x hx e) (ht.q3 y hy e')),
    map_iff (f := mfp (rollF a)) (g := mfp (rollF b)) (f' := mfp (rollF a')) (g' := mfp (rollF b')) s.f2.f3 t.f2.f3 (fun x hx y hy => mfp_iff fun e e' => h _ _ (hs.q4 x hx e) (ht.q4 y hy e'))]
theorem okF_true (en : Int) (b : Bool) (h : Int) : okF en b h = true ↔ b = true ∧ (-12 ≤ h ∧ h < en) := by
  simp [okF]
  constructor
  · rintro ⟨⟨h1, h2⟩, h3⟩; exact ⟨h1, h3, h2⟩
  · rintro ⟨h1, h3, h2⟩; exact ⟨⟨h1, h2⟩, h3⟩
theorem okS_ints (en : Int) (b : Bool) (l : List Int) : (foldm (okS en) b l).1 = true ↔ b = true ∧ ∀ h ∈ l, -12 ≤ h ∧ h < en := by
  induction l generalizing b with
  | nil => simp [foldm]
  | cons x l ih =>
    simp only [foldm, ih, okS, okF_true, List.mem_cons, forall_eq_or_imp, and_assoc]
theorem okS_vals (en : Int) (b : Bool) (l : List S74) : (foldm (tval (okS en)) b l).1 = true ↔ b = true ∧ ∀ v ∈ l, v.f0 = 5 → -12 ≤ v.f2 ∧ v.f2 < en := by
  induction l generalizing b with
  | nil => simp [foldm]
  | cons x l ih =>
    have e : (tval (okS en) b x).1 = true ↔ b = true ∧ (x.f0 = 5 → -12 ≤ x.f2 ∧ x.f2 < en) := by
      unfold tval
      by_cases h : x.f0 = 5
      · simp only [h, if_true, okS, okF_true, true_implies]
      · simp [h]
    simp only [foldm, ih, e, List.mem_cons, forall_eq_or_imp, and_assoc]
theorem okS_fields (en : Int) (b : Bool) (l : List S118) : (foldm (tfield (okS en)) b l).1 = true ↔ b = true ∧ ∀ v ∈ l, v.f0.f0 = 5 → -12 ≤ v.f0.f2 ∧ v.f0.f2 < en := by
  induction l generalizing b with
  | nil => simp [foldm]
  | cons x l ih =>
    have e : (tfield (okS en) b x).1 = true ↔ b = true ∧ (x.f0.f0 = 5 → -12 ≤ x.f0.f2 ∧ x.f0.f2 < en) := by
      unfold tfield tval
      by_cases h : x.f0.f0 = 5
      · simp only [h, if_true, okS, okF_true, true_implies]
      · simp [h]
    simp only [foldm, ih, e, List.mem_cons, forall_eq_or_imp, and_assoc]
theorem typeOk_iff (en : Int) (s : S53) : typeOk en s = true ↔ (∀ h ∈ s.f1, 0 ≤ h) ∧ TQ (fun h => -12 ≤ h ∧ h < en) s := by
  unfold typeOk tsub
  dsimp only
  rw [okS_fields, okS_vals, okS_vals, okS_ints]
  have e : supOk s.f1 = true ↔ ∀ h ∈ s.f1, 0 ≤ h := by simp [supOk]
  rw [e]
  constructor
  · rintro ⟨⟨⟨⟨h0, h1⟩, h2⟩, h3⟩, h4⟩; exact ⟨h0, h1, h2, h3, h4⟩
  · rintro ⟨h0, h1, h2, h3, h4⟩; exact ⟨⟨⟨⟨h0, h1⟩, h2⟩, h3⟩, h4⟩
theorem Clo.tq {l : List S62} (h : Clo l) {j : Nat} {r : S62} (hr : l[j]? = some r) {s : S53} (hs : s ∈ r.f0) : TQ (fun x => -12 ≤ x ∧ x < (tcount (l.take (j + 1)) : Nat)) s := ((typeOk_iff _ _).1 (h j r hr s hs)).2
/-- Two runs of adding one list. -/
theorem rollF_iff {a b a' b' : List Int} {x y : Int} (hx : -12 ≤ x) (hy : -12 ≤ y) (ha : ∀ i ∈ a, 0 ≤ i) (hb : ∀ i ∈ b, 0 ≤ i) (ha' : ∀ i ∈ a', 0 ≤ i) (hb' : ∀ i ∈ b', 0 ≤ i) (hla : a.length = a'.length) (hlb : b.length = b'.length)
    (h : 0 ≤ x → x < a.length → 0 ≤ y → y < b.length → (rd a x = rd b y ↔ rd a' x = rd b' y)) : rollF a x = rollF b y ↔ rollF a' x = rollF b' y := by
  have pos : ∀ (c : List Int) (z : Int), (∀ i ∈ c, 0 ≤ i) → 0 ≤ z → z < c.length → 0 ≤ rd c z := by
    intro c z hc h0 h1
    have e : rd c z = c[z.toNat]'(by omega) := by simp [rd, List.getD_eq_getElem?_getD, List.getElem?_eq_getElem (show z.toNat < c.length by omega)]
    rw [e]
    exact hc _ (List.getElem_mem _)
  unfold rollF
  rw [← hla, ← hlb]
  by_cases x0 : x < 0 <;> by_cases y0 : y < 0
  · simp only [x0, y0, if_true]
  · simp only [x0, y0, if_true, if_false]
    by_cases y1 : y < b.length
    · simp only [y1, if_true]
      have := pos b y hb (by omega) y1
      have := pos b' y hb' (by omega) (by omega)
      omega
    · simp only [y1, if_false]
  · simp only [x0, y0, if_true, if_false]
    by_cases x1 : x < a.length
    · simp only [x1, if_true]
      have := pos a x ha (by omega) x1
      have := pos a' x ha' (by omega) (by omega)
      omega
    · simp only [x1, if_false]
  · simp only [x0, y0, if_false]
    by_cases x1 : x < a.length <;> by_cases y1 : y < b.length
    · simp only [x1, y1, if_true]
      exact h (by omega) x1 (by omega) y1
    · simp only [x1, y1, if_true, if_false]
      have := pos a x ha (by omega) x1
      have := pos a' x ha' (by omega) (by omega)
      omega
    · simp only [x1, y1, if_true, if_false]
      have := pos b y hb (by omega) y1
      have := pos b' y hb' (by omega) (by omega)
      omega
    · simp only [x1, y1, if_false]
theorem ids_nonneg {most : Int} {l : List S62} {gs0 gs : List (List S53)} {ids : List Int} (h : addTo most (gs0, []) l = some (gs, ids)) (hd : Dist gs0) : ∀ i ∈ ids, 0 ≤ i := by
  obtain ⟨_, _, ⟨t, ht, htl⟩, hall⟩ := addTo_char most l gs0 gs [] ids h hd
  rw [List.nil_append] at ht
  subst ht
  intro i hi
  obtain ⟨p, hp, rfl⟩ := List.getElem_of_mem hi
  obtain ⟨j, r, o, _, hr, rfl, ho⟩ := place_of l l.length p (Nat.le_refl _) (by rw [List.take_length]; omega)
  obtain ⟨idx, h1, h2⟩ := hall j r hr
  have h3 := h2 o ho
  simp only [List.length_nil, Nat.zero_add] at h3
  rw [List.getElem?_eq_getElem hp] at h3
  injection h3 with h3
  rw [h3]
  have := (firstOf_le gs idx _ h1).1
  omega
theorem rd_take (l : List Int) (n : Nat) (x : Int) (h0 : 0 ≤ x) (h : x < n) : rd (l.take n) x = rd l x := by
  unfold rd
  rw [List.getD_eq_getElem?_getD, List.getD_eq_getElem?_getD, List.getElem?_take_of_lt (by omega)]
theorem rd_eq (l : List Int) (x : Int) (v : Int) (h : l[x.toNat]? = some v) : rd l x = v := by
  unfold rd
  rw [List.getD_eq_getElem?_getD, h]
  rfl
theorem tcount_mono (l : List S62) (i j : Nat) (h : i ≤ j) : tcount (l.take i) ≤ tcount (l.take j) := by
  have e : l.take j = l.take i ++ (l.take j).drop i := by
    have := (List.take_append_drop i (l.take j)).symm
    rw [List.take_take, Nat.min_eq_left h] at this
    exact this
  rw [e]
  simp [tcount]
/-- Whether two types have one id does not hang on what was added ahead. -/
theorem ids_alike {l : List S62} (hc : Clo l) {mA mB : Int} {gA0 gA gB0 gB : List (List S53)} {iA iB : List Int} (hA : addTo mA (gA0, []) l = some (gA, iA)) (hB : addTo mB (gB0, []) l = some (gB, iB)) (dA : Dist gA0) (dB : Dist gB0) (x y : Int) (hx : 0 ≤ x ∧ x < tcount l) (hy : 0 ≤ y ∧ y < tcount l) :
    rd iA x = rd iA y ↔ rd iB x = rd iB y := by
  have nA := ids_nonneg hA dA
  have nB := ids_nonneg hB dB
  obtain ⟨dA', _, ⟨t, ht, lA⟩, allA⟩ := addTo_char mA l gA0 gA [] iA hA dA
  rw [List.nil_append] at ht
  subst ht
  obtain ⟨dB', _, ⟨t, ht, lB⟩, allB⟩ := addTo_char mB l gB0 gB [] iB hB dB
  rw [List.nil_append] at ht
  subst ht
  have key : ∀ k, k ≤ l.length → ∀ x y : Int, 0 ≤ x → x < (tcount (l.take k) : Nat) → 0 ≤ y → y < (tcount (l.take k) : Nat) → (rd iA x = rd iA y ↔ rd iB x = rd iB y) := by
    intro k
    induction k with
    | zero => intro _ x y _ h; simp [tcount] at h; omega
    | succ k ih =>
      intro hk x y hx0 hx1 hy0 hy1
      obtain ⟨j, r, o, hj, hr, ex, ho⟩ := place_of l (k + 1) x.toNat hk (by omega)
      obtain ⟨j', r', o', hj', hr', ey, ho'⟩ := place_of l (k + 1) y.toNat hk (by omega)
      obtain ⟨a, a1, a2⟩ := allA j r hr
      obtain ⟨a', a1', a2'⟩ := allA j' r' hr'
      obtain ⟨b, b1, b2⟩ := allB j r hr
      obtain ⟨b', b1', b2'⟩ := allB j' r' hr'
      simp only [List.length_nil, Nat.zero_add] at a1 a2 a1' a2' b1 b2 b1' b2'
      rw [rd_eq iA x _ (by rw [ex]; exact a2 o ho), rd_eq iA y _ (by rw [ey]; exact a2' o' ho'), rd_eq iB x _ (by rw [ex]; exact b2 o ho), rd_eq iB y _ (by rw [ey]; exact b2' o' ho')]
      rw [id_eq_iff a1 a1' (by rw [ownG_length]; exact ho) (by rw [ownG_length]; exact ho'), id_eq_iff b1 b1' (by rw [ownG_length]; exact ho) (by rw [ownG_length]; exact ho')]
      have eA : a = a' ↔ ownG (iA.take (tcount (l.take j))) r = ownG (iA.take (tcount (l.take j'))) r' := by
        constructor
        · rintro rfl; rw [a1] at a1'; injection a1'
        · intro e; rw [← e] at a1'; exact dA' _ _ _ a1 a1'
      have eB : b = b' ↔ ownG (iB.take (tcount (l.take j))) r = ownG (iB.take (tcount (l.take j'))) r' := by
        constructor
        · rintro rfl; rw [b1] at b1'; injection b1'
        · intro e; rw [← e] at b1'; exact dB' _ _ _ b1 b1'
      rw [eA, eB]
      have hle := tcount_take_le l j r hr
      have hle' := tcount_take_le l j' r' hr'
      have lenA : ∀ n, n ≤ tcount l → (iA.take n).length = n := fun n hn => by rw [List.length_take]; omega
      have lenB : ∀ n, n ≤ tcount l → (iB.take n).length = n := fun n hn => by rw [List.length_take]; omega
      have hm := tcount_mono l j k (by omega)
      have hm' := tcount_mono l j' k (by omega)
      have own : ownG (iA.take (tcount (l.take j))) r = ownG (iA.take (tcount (l.take j'))) r' ↔ ownG (iB.take (tcount (l.take j))) r = ownG (iB.take (tcount (l.take j'))) r' := by
        unfold ownG
        refine map_iff _ _ fun s hs u hu => ?_
        refine mroll_iff (hc.tq hr hs) (hc.tq hr' hu) fun p q hp hq => ?_
        refine rollF_iff hp.1 hq.1 (fun i hi => nA i (List.mem_of_mem_take hi)) (fun i hi => nA i (List.mem_of_mem_take hi)) (fun i hi => nB i (List.mem_of_mem_take hi)) (fun i hi => nB i (List.mem_of_mem_take hi)) (by rw [lenA _ (by omega), lenB _ (by omega)]) (by rw [lenA _ (by omega), lenB _ (by omega)]) ?_
        intro p0 p1 q0 q1
        rw [lenA _ (by omega)] at p1 q1
        rw [rd_take _ _ _ p0 p1, rd_take _ _ _ q0 q1, rd_take _ _ _ p0 p1, rd_take _ _ _ q0 q1]
        exact ih (by omega) p q p0 (by omega) q0 (by omega)
      rw [own]
  have := key l.length (Nat.le_refl _) x y hx.1 (by rw [List.take_length]; exact hx.2) hy.1 (by rw [List.take_length]; exact hy.2)
  exact this
end Go.Proofs.YtfgglniigeagdaaDoor.Cn
namespace Go.Proofs.YtfgglniigeagdaaDoor.Cn
set_option linter.unusedSimpArgs false
set_option linter.unusedVariables false
open Go.RowKit Go.Maps Go.Proofs.YtfgglniigeagdaaDoorW.PrintWords Go.Proofs.YtfgglniigeagdaaDoorW.PrintLast Go.Proofs.YtfgglniigeagdaaDoor.QD Go.Proofs.YtfgglniigeagdaaDoor.Opb
theorem N64_of_wf {x : Int} (h : (Lit.int .i64 x).wf = true) : N64 x := by
  simp only [Lit.wf, Bool.and_eq_true, decide_eq_true_eq] at h
  exact h
theorem opbInt : Opb Tryd.prog 3 (Kd.int .i64) N64 (fun _ => 1) := (Opb.int Tryd.underlying3 (by kernel_rfl)).imp (fun _ h => N64_of_wf h) (fun _ => Nat.le_refl _)
theorem opbVT : Opb Tryd.prog 74 k74 (fun v => N64 v.f0 ∧ N64 v.f2) (fun _ => 1) :=
  (Opb.iso (Opb.struct Tryd.underlying74 (by kernel_rfl) (OpbF.cons opbInt rfl rfl (OpbF.cons (Opb.bool Tryd.underlying4 (by kernel_rfl)) rfl rfl (OpbF.last opbInt rfl)))) (fun x : S74 => (x.f0, x.f1, x.f2)) (fun x => ⟨x.1, x.2.1, x.2.2⟩) (fun _ => rfl)).imp (fun _ h => ⟨h.1, h.2.2⟩) (fun _ => by omega)
theorem opbFT : Opb Tryd.prog 118 k118 (fun v => N64 v.f0.f0 ∧ N64 v.f0.f2) (fun _ => 1) :=
  (Opb.iso (Opb.struct Tryd.underlying118 (by kernel_rfl) (OpbF.cons opbVT rfl rfl (OpbF.last (Opb.bool Tryd.underlying4 (by kernel_rfl)) rfl))) (fun x : S118 => (x.f0, x.f1)) (fun x => ⟨x.1, x.2⟩) (fun _ => rfl)).imp (fun _ h => h.1) (fun _ => by omega)
theorem sum_ones {α : Type} (l : List α) : (l.map fun _ => 1).sum = l.length := by
  induction l with
  | nil => rfl
  | cons x l ih => simp only [List.map_cons, List.sum_cons, ih, List.length_cons]; omega
theorem opbInts : Opb Tryd.prog 37 (Kd.slice 3 (Kd.int .i64)) (fun xs => ∀ x ∈ xs, N64 x) (fun xs => xs.length) := (Opb.slice Tryd.underlying37 (by kernel_rfl) opbInt).imp (fun _ h => h) (fun _ => by rw [sum_ones]; omega)
theorem opbVTs : Opb Tryd.prog 48 (Kd.slice 74 k74) (fun xs => ∀ v ∈ xs, N64 v.f0 ∧ N64 v.f2) (fun xs => xs.length) := (Opb.slice Tryd.underlying48 (by kernel_rfl) opbVT).imp (fun _ h => h) (fun _ => by rw [sum_ones]; omega)
theorem opbFTs : Opb Tryd.prog 49 (Kd.slice 118 k118) (fun xs => ∀ v ∈ xs, N64 v.f0.f0 ∧ N64 v.f0.f2) (fun xs => xs.length) := (Opb.slice Tryd.underlying49 (by kernel_rfl) opbFT).imp (fun _ h => h) (fun _ => by rw [sum_ones]; omega)
/-- A composite type that came in. -/
structure CIn (c : S51) : Prop where
  k : N64 c.f0
  p : ∀ v ∈ c.f1, N64 v.f0 ∧ N64 v.f2
  r : ∀ v ∈ c.f2, N64 v.f0 ∧ N64 v.f2
  f : ∀ v ∈ c.f3, N64 v.f0.f0 ∧ N64 v.f0.f2
def wC (c : S51) : Nat := c.f1.length + c.f2.length + c.f3.length + 1
theorem opbCT : Opb Tryd.prog 51 k51 CIn wC :=
  (Opb.iso (Opb.struct Tryd.underlying51 (by kernel_rfl) (OpbF.cons opbInt rfl rfl (OpbF.cons opbVTs rfl rfl (OpbF.cons opbVTs rfl rfl (OpbF.last opbFTs rfl))))) (fun x : S51 => (x.f0, x.f1, x.f2, x.f3)) (fun x => ⟨x.1, x.2.1, x.2.2.1, x.2.2.2⟩) (fun _ => rfl)).imp (fun _ h => ⟨h.1, h.2.1, h.2.2.1, h.2.2.2⟩) (fun _ => by unfold wC; dsimp only; omega)
/-- A type that came in. -/
structure SIn (s : S53) : Prop where
  u : ∀ x ∈ s.f1, N64 x
  c : CIn s.f2
theorem opbST : Opb Tryd.prog 53 k53 SIn wS :=
  (Opb.iso (Opb.struct Tryd.underlying53 (by kernel_rfl) (OpbF.cons (Opb.bool Tryd.underlying4 (by kernel_rfl)) rfl rfl (OpbF.cons opbInts rfl rfl (OpbF.last opbCT rfl)))) (fun x : S53 => (x.f0, x.f1, x.f2)) (fun x => ⟨x.1, x.2.1, x.2.2⟩) (fun _ => rfl)).imp (fun _ h => ⟨h.2.1, h.2.2⟩) (fun _ => by unfold wS wC; dsimp only; omega)
theorem opbSTs : Opb Tryd.prog 60 (Kd.slice 53 k53) (fun xs => ∀ s ∈ xs, SIn s) (fun xs => wG xs) := (Opb.slice Tryd.underlying60 (by kernel_rfl) opbST).imp (fun _ h => h) (fun _ => by unfold wG; omega)
/-- A group that came in. -/
def GIn (r : S62) : Prop := ∀ s ∈ r.f0, SIn s
theorem opbRT : Opb Tryd.prog 62 k62 GIn (fun r => wG r.f0 + 1) :=
  (Opb.iso (Opb.struct Tryd.underlying62 (by kernel_rfl) (OpbF.cons opbSTs rfl rfl (OpbF.last (Opb.bool Tryd.underlying4 (by kernel_rfl)) rfl))) (fun x : S62 => (x.f0, x.f1)) (fun x => ⟨x.1, x.2⟩) (fun _ => rfl)).imp (fun _ h => h.1) (fun _ => by dsimp only; omega)
def LIn (l : List S62) : Prop := ∀ r ∈ l, GIn r
def wLL (l : List S62) : Nat := (l.map fun r => wG r.f0 + 1).sum
theorem opbRTs : Opb Tryd.prog 22 (Kd.slice 62 k62) LIn wLL := (Opb.slice Tryd.underlying22 (by kernel_rfl) opbRT).imp (fun _ h => h) (fun _ => by unfold wLL; omega)
theorem wLL_eq (l : List S62) : wLL l = wL l + l.length := by
  unfold wLL wL
  induction l with
  | nil => rfl
  | cons x l ih => simp only [List.map_cons, List.sum_cons, List.length_cons, ih]; omega
theorem wG_le_wL {l : List S62} {r : S62} (h : r ∈ l) : wG r.f0 ≤ wL l := sum_le_mem (fun r => wG r.f0) l r h
theorem wS_le_wG {l : List S53} {s : S53} (h : s ∈ l) : wS s ≤ wG l := sum_le_mem wS l s h
/-- The lists of a type are no longer than they can be. -/
theorem sok_of_w {s : S53} (h : wS s ≤ 1048576) : SOk (fun _ => True) s := by
  unfold wS at h
  exact ⟨fun _ _ => trivial, fun _ _ _ => trivial, fun _ _ _ => trivial, fun _ _ _ => trivial, by omega, by omega, by omega, by omega⟩
theorem sok_all {l : List S62} (h : wL l ≤ 1048576) : ∀ r ∈ l, ∀ s ∈ r.f0, SOk (fun _ => True) s := fun r hr s hs => sok_of_w (Nat.le_trans (wS_le_wG hs) (Nat.le_trans (wG_le_wL hr) h))
theorem rin_all {l : List S62} (h : wL l ≤ 1048576) (hi : LIn l) (hc : Clo l) : ∀ r ∈ l, ∀ s ∈ r.f0, RIn s := by
  intro r hr s hs
  obtain ⟨j, hj, rfl⟩ := List.getElem_of_mem hr
  have t := hc.tq (List.getElem?_eq_getElem hj) hs
  have hb : tcount (l.take (j + 1)) ≤ 1048576 := by
    have h1 := tcount_mono l (j + 1) l.length (by omega)
    rw [List.take_length] at h1
    have h2 := tcount_le_wL l
    omega
  have k := hi _ hr s hs
  have q : ∀ x : Int, (-12 ≤ x ∧ x < (tcount (l.take (j + 1)) : Nat)) → RollQ x := fun x hx => ⟨by omega, by omega⟩
  have o := sok_all h _ hr s hs
  refine ⟨⟨fun x hx => q x (t.q1 x hx), fun v hv e => q _ (t.q2 v hv e), fun v hv e => q _ (t.q3 v hv e), fun v hv e => q _ (t.q4 v hv e), o.l1, o.l2, o.l3, o.l4⟩, k.c.k, fun v hv => (k.c.p v hv).1, fun v hv => (k.c.r v hv).1, fun v hv => (k.c.f v hv).1⟩
/-- A list of groups that the walk may read: at A, of capacity c. -/
structure LA (w : World) (A : Option Addr) (c : Nat) (l : List S62) : Prop where
  C : Kd.C k62 w A l.length l
  cap : l.length ≤ c
  inn : LIn l
  w : wL l + l.length ≤ 1048576
theorem LA.below {w w' : World} {A : Option Addr} {c : Nat} {l : List S62} (h : LA w A c l) (hb : Below w.heap.size w w') : LA w' A c l := ⟨Kd.C_below h.C hb, h.cap, h.inn, h.w⟩
theorem LA.of_K {w : World} {l : List S62} {v : Value} (h : (Kd.slice 62 k62).K w l v.cells.toList) {A : Option Addr} {n c : Nat} (hv : v = .slice A n c) (hi : LIn l) (hb : wLL l ≤ 1048576) : n = l.length ∧ LA w A c l := by
  obtain ⟨A', c', e, hl, hC⟩ := h
  subst hv
  simp only [Value.cells, List.cons.injEq, and_true] at e
  injection e with e1 e2 e3
  subst e1 e3
  rw [wLL_eq] at hb
  exact ⟨e2, hC, hl, hi, hb⟩
end Go.Proofs.YtfgglniigeagdaaDoor.Cn
namespace Go.Proofs.YtfgglniigeagdaaDoor.Cn
set_option linter.unusedSimpArgs false
set_option linter.unusedVariables false
open Go.RowKit Go.Maps Go.Proofs.YtfgglniigeagdaaDoorW.PrintWords Go.Proofs.YtfgglniigeagdaaDoorW.PrintLast Go.Proofs.YtfgglniigeagdaaDoorW.PrintMore Go.Proofs.YtfgglniigeagdaaDoor.QD
theorem rdVT_at (l : List S74) (j : Nat) (h : j < l.length) : rd_T74 l (j : Int) = l[j] := by simp [rd_T74, List.getD_eq_getElem?_getD, List.getElem?_eq_getElem h]
theorem rdFT_at (l : List S118) (j : Nat) (h : j < l.length) : rd_T118 l (j : Int) = l[j] := by simp [rd_T118, List.getD_eq_getElem?_getD, List.getElem?_eq_getElem h]
theorem rdST_at (l : List S53) (j : Nat) (h : j < l.length) : rd_T53 l (j : Int) = l[j] := by simp [rd_T53, List.getD_eq_getElem?_getD, List.getElem?_eq_getElem h]
theorem rdRT_at (l : List S62) (j : Nat) (h : j < l.length) : rd_T62 l (j : Int) = l[j] := by simp [rd_T62, List.getD_eq_getElem?_getD, List.getElem?_eq_getElem h]
theorem rdI_at (l : List Int) (j : Nat) (h : j < l.length) : rd l (j : Int) = l[j] := by simp [rd, List.getD_eq_getElem?_getD, List.getElem?_eq_getElem h]
theorem wrapS (j : Nat) (h : j ≤ 1099511627776) : wrap64 ((j : Int) + 1) = ((j + 1 : Nat) : Int) := by unfold wrap64; omega
theorem ltI {j n : Nat} (h : j < n) : (j : Int) < (n : Int) := by omega
theorem nltI {j n : Nat} (h : j = n) : ¬ (j : Int) < (n : Int) := by omega
theorem geI (j : Nat) : (0 : Int) ≤ (j : Int) := Int.natCast_nonneg j
theorem r6heap (h : Int) (ids : List Int) (hl : ids.length ≤ 1000000000000) (hq : RollQ h) : ratchetref06_heap.f h ids (ids.length : Int) = some (rollF ids h) := by
  obtain ⟨q1, q2⟩ := hq
  unfold ratchetref06_heap.f rollF
  by_cases h0 : h < 0
  · rw [if_pos h0, if_pos h0]
  · rw [if_neg h0, if_neg h0]
    by_cases h1 : h < ids.length
    · rw [if_neg (by omega), if_pos h1, if_pos (by omega), if_pos h1]
    · rw [if_pos (by omega), if_neg h1]
      have e1 : wrap64 (h - ids.length) = h - ids.length := by unfold wrap64; omega
      have e2 : wrap64 (-100 - (h - (ids.length : Int))) = -100 - (h - ids.length) := by unfold wrap64; omega
      rw [e1, e2]
theorem r6val (n : Int) (b : Bool) (h : Int) (ids : List Int) (hl : ids.length ≤ 1000000000000) (hq : n = 5 → RollQ h) : ratchetref06_val.f n b h ids (ids.length : Int) = some ((mvp (rollF ids) ⟨n, b, h⟩).f0, (mvp (rollF ids) ⟨n, b, h⟩).f1, (mvp (rollF ids) ⟨n, b, h⟩).f2) := by
  unfold ratchetref06_val.f mvp
  by_cases h5 : n = 5
  · rw [if_pos h5, r6heap h ids hl (hq h5), if_pos h5, h5]
    rfl
  · rw [if_neg h5, if_neg h5]
theorem r6vals_l0 (l : List S74) (ids : List Int) (hl : ids.length ≤ 1000000000000) (hn : l.length ≤ 1048576) (hq : ∀ v ∈ l, v.f0 = 5 → RollQ v.f2) : ∀ (m j K : Nat) (acc : List S74), j + m = l.length → m + 1 ≤ K → acc.length = j →
    ratchetref06_vals.l0 K l ids (ids.length : Int) acc (j : Int) = some (acc ++ (l.drop j).map (mvp (rollF ids))) := by
  intro m
  induction m with
  | zero =>
    intro j K acc hj hK ha
    obtain ⟨K, rfl⟩ : ∃ k, K = k + 1 := ⟨K - 1, by omega⟩
    have hjl : j = l.length := by omega
    rw [ratchetref06_vals.l0, if_neg (nltI hjl), hjl, List.drop_length]
    simp
  | succ m ih =>
    intro j K acc hj hK ha
    obtain ⟨K, rfl⟩ : ∃ k, K = k + 1 := ⟨K - 1, by omega⟩
    have hlt : j < l.length := by omega
    have hm : l[j] ∈ l := List.getElem_mem hlt
    rw [ratchetref06_vals.l0, if_pos (ltI hlt), if_pos (geI j), rdVT_at l j hlt, r6val _ _ _ ids hl (hq _ hm), Option.bind_some, if_pos (by omega), wrapS j (by omega), ih (j + 1) K _ (by omega) (by omega) (by simp [ha])]
    rw [List.drop_eq_getElem_cons hlt, List.map_cons, List.append_assoc]
    rfl
theorem r6vals (l : List S74) (ids : List Int) (hl : ids.length ≤ 1000000000000) (hn : l.length ≤ 1048576) (hq : ∀ v ∈ l, v.f0 = 5 → RollQ v.f2) (K : Nat) (hK : l.length + 1 ≤ K) : ratchetref06_vals.f K l ids (ids.length : Int) = some (l.map (mvp (rollF ids))) := by
  have := r6vals_l0 l ids hl hn hq l.length 0 K [] (by omega) hK rfl
  unfold ratchetref06_vals.f
  simpa using this
theorem r6sub_l1 (ids : List Int) (hl : ids.length ≤ 1000000000000) (a : Bool) (l1 : List Int) (n : Int) (l3 l4 : List S74) (l5 : List S118) (hn : l5.length ≤ 1048576) (hq : ∀ v ∈ l5, v.f0.f0 = 5 → RollQ v.f0.f2) (o0 : Bool) (o1 : List Int) (o2 : Int) (o3 o4 : List S74) : ∀ (m j K : Nat) (acc : List S118), j + m = l5.length → m + 1 ≤ K → acc.length = j →
    ratchetref06_sub.l1 K ids (ids.length : Int) (j : Int) a l1 n l3 l4 l5 o0 o1 o2 o3 o4 acc = some (o0, o1, o2, o3, o4, acc ++ (l5.drop j).map (mfp (rollF ids))) := by
  intro m
  induction m with
  | zero =>
    intro j K acc hj hK ha
    obtain ⟨K, rfl⟩ : ∃ k, K = k + 1 := ⟨K - 1, by omega⟩
    have hjl : j = l5.length := by omega
    rw [ratchetref06_sub.l1, if_neg (nltI hjl), hjl, List.drop_length]
    simp
  | succ m ih =>
    intro j K acc hj hK ha
    obtain ⟨K, rfl⟩ : ∃ k, K = k + 1 := ⟨K - 1, by omega⟩
    have hlt : j < l5.length := by omega
    have hm : l5[j] ∈ l5 := List.getElem_mem hlt
    rw [ratchetref06_sub.l1, if_pos (ltI hlt), if_pos (geI j), rdFT_at l5 j hlt, r6val _ _ _ ids hl (hq _ hm), Option.bind_some, if_pos (by omega), wrapS j (by omega), ih (j + 1) K _ (by omega) (by omega) (by simp [ha])]
    rw [List.drop_eq_getElem_cons hlt, List.map_cons, List.append_assoc]
    rfl
theorem r6sub_l0 (ids : List Int) (hl : ids.length ≤ 1000000000000) (a : Bool) (l1 : List Int) (n : Int) (l3 l4 : List S74) (l5 : List S118) (h1 : l1.length ≤ 1048576) (h3 : l3.length ≤ 1048576) (h4 : l4.length ≤ 1048576) (h5 : l5.length ≤ 1048576) (q1 : ∀ v ∈ l1, RollQ v) (q3 : ∀ v ∈ l3, v.f0 = 5 → RollQ v.f2) (q4 : ∀ v ∈ l4, v.f0 = 5 → RollQ v.f2) (q5 : ∀ v ∈ l5, v.f0.f0 = 5 → RollQ v.f0.f2) (o0 : Bool) (o2 : Int) :
    ∀ (m j K : Nat) (acc : List Int), j + m = l1.length → m + l3.length + l4.length + l5.length + 2 ≤ K → acc.length = j →
    ratchetref06_sub.l0 K ids (ids.length : Int) (j : Int) a l1 n l3 l4 l5 o0 acc o2 = some (o0, acc ++ (l1.drop j).map (rollF ids), n, l3.map (mvp (rollF ids)), l4.map (mvp (rollF ids)), l5.map (mfp (rollF ids))) := by
  intro m
  induction m with
  | zero =>
    intro j K acc hj hK ha
    obtain ⟨K, rfl⟩ : ∃ k, K = k + 1 := ⟨K - 1, by omega⟩
    have hjl : j = l1.length := by omega
    rw [ratchetref06_sub.l0, if_neg (nltI hjl), r6vals l3 ids hl h3 q3 K (by omega), Option.bind_some, r6vals l4 ids hl h4 q4 K (by omega), Option.bind_some]
    have := r6sub_l1 ids hl a l1 n l3 l4 l5 h5 q5 o0 acc n (l3.map (mvp (rollF ids))) (l4.map (mvp (rollF ids))) l5.length 0 K [] (by omega) (by omega) rfl
    rw [hjl, List.drop_length]
    simpa using this
  | succ m ih =>
    intro j K acc hj hK ha
    obtain ⟨K, rfl⟩ : ∃ k, K = k + 1 := ⟨K - 1, by omega⟩
    have hlt : j < l1.length := by omega
    have hm : l1[j] ∈ l1 := List.getElem_mem hlt
    rw [ratchetref06_sub.l0, if_pos (ltI hlt), if_pos (geI j), rdI_at l1 j hlt, r6heap _ ids hl (q1 _ hm), Option.bind_some, if_pos (by omega), wrapS j (by omega), ih (j + 1) K _ (by omega) (by omega) (by simp [ha])]
    rw [List.drop_eq_getElem_cons hlt, List.map_cons, List.append_assoc]
    rfl
theorem r6sub (ids : List Int) (hl : ids.length ≤ 1000000000000) (s : S53) (hs : RIn s) (hw : wS s ≤ 1048576) (K : Nat) (hK : wS s + 2 ≤ K) :
    ratchetref06_sub.f K s.f0 s.f1 s.f2.f0 s.f2.f1 s.f2.f2 s.f2.f3 ids (ids.length : Int) = some ((mroll ids s).f0, (mroll ids s).f1, (mroll ids s).f2.f0, (mroll ids s).f2.f1, (mroll ids s).f2.f2, (mroll ids s).f2.f3) := by
  unfold wS at hw hK
  have := r6sub_l0 ids hl s.f0 s.f1 s.f2.f0 s.f2.f1 s.f2.f2 s.f2.f3 (by omega) (by omega) (by omega) (by omega) hs.ok.q1 hs.ok.q2 hs.ok.q3 hs.ok.q4 s.f0 0 s.f1.length 0 K [] (by omega) (by omega) rfl
  rw [mroll_eq]
  unfold ratchetref06_sub.f
  simpa using this
theorem drop_ne {α : Type} {a b : List α} {j : Nat} (ha : j < a.length) (hb : j < b.length) (h : a[j] ≠ b[j]) : a.drop j ≠ b.drop j := by
  intro e
  rw [List.drop_eq_getElem_cons ha, List.drop_eq_getElem_cons hb] at e
  injection e with e _
  exact h e
theorem drop_iff {α : Type} {a b : List α} {j : Nat} (ha : j < a.length) (hb : j < b.length) (h : a[j] = b[j]) : (a.drop j = b.drop j) = (a.drop (j + 1) = b.drop (j + 1)) := by
  rw [List.drop_eq_getElem_cons ha, List.drop_eq_getElem_cons hb, h]
  exact propext ⟨fun e => (List.cons.inj e).2, fun e => by rw [e]⟩
theorem vt_ne (a b : S74) : ((!(a.f0 == b.f0) || (!(a.f1 == b.f1) || !(a.f2 == b.f2))) = true) = (a ≠ b) := by
  obtain ⟨a0, a1, a2⟩ := a
  obtain ⟨b0, b1, b2⟩ := b
  simp only [ne_eq, S74.mk.injEq, Bool.or_eq_true, Bool.not_eq_true', beq_eq_false_iff_ne, eq_iff_iff]
  constructor
  · rintro (h | h | h) ⟨h0, h1, h2⟩ <;> contradiction
  · intro h
    by_cases p : a0 = b0
    · by_cases q : a1 = b1
      · exact .inr (.inr (fun e => h ⟨p, q, e⟩))
      · exact .inr (.inl q)
    · exact .inl p
theorem ft_ne (a b : S118) : (((!(a.f0.f0 == b.f0.f0) || (!(a.f0.f1 == b.f0.f1) || !(a.f0.f2 == b.f0.f2))) || !(a.f1 == b.f1)) = true) = (a ≠ b) := by
  rw [Bool.or_eq_true, vt_ne]
  obtain ⟨a0, a1⟩ := a
  obtain ⟨b0, b1⟩ := b
  simp only [ne_eq, S118.mk.injEq, Bool.not_eq_true', beq_eq_false_iff_ne, eq_iff_iff]
  constructor
  · rintro (h | h) ⟨h0, h1⟩ <;> contradiction
  · intro h
    by_cases p : a0 = b0
    · exact .inr (fun e => h ⟨p, e⟩)
    · exact .inl p
open Classical in
theorem r6sames_l0 (a b : List S74) (he : a.length = b.length) (hn : a.length ≤ 1048576) : ∀ (m j K : Nat), j + m = a.length → m + 1 ≤ K → ratchetref06_sames.l0 K a b (j : Int) = some (decide (a.drop j = b.drop j)) := by
  intro m
  induction m with
  | zero =>
    intro j K hj hK
    obtain ⟨K, rfl⟩ : ∃ k, K = k + 1 := ⟨K - 1, by omega⟩
    have hjl : j = a.length := by omega
    rw [ratchetref06_sames.l0, if_neg (nltI hjl), hjl, List.drop_length, he, List.drop_length]
    simp
  | succ m ih =>
    intro j K hj hK
    obtain ⟨K, rfl⟩ : ∃ k, K = k + 1 := ⟨K - 1, by omega⟩
    have hlt : j < a.length := by omega
    have hlb : j < b.length := by omega
    rw [ratchetref06_sames.l0, if_pos (ltI hlt), if_pos (geI j), if_pos (ltI hlb), rdVT_at a j hlt, rdVT_at b j hlb]
    by_cases h : a[j] = b[j]
    · rw [if_neg (by rw [vt_ne]; exact fun x => x h), wrapS j (by omega), ih (j + 1) K (by omega) (by omega)]
      exact congrArg some (decide_eq_decide.2 (by rw [drop_iff hlt hlb h]))
    · rw [if_pos (by rw [vt_ne]; exact h), decide_eq_false (drop_ne hlt hlb h)]
open Classical in
theorem r6sames (a b : List S74) (hn : a.length ≤ 1048576) (K : Nat) (hK : a.length + 1 ≤ K) : ratchetref06_sames.f K a b = some (decide (a = b)) := by
  unfold ratchetref06_sames.f
  by_cases he : a.length = b.length
  · rw [if_pos (by omega)]
    have := r6sames_l0 a b he hn a.length 0 K (by omega) hK
    simpa using this
  · rw [if_neg (by omega), decide_eq_false (fun e => he (by rw [e]))]
open Classical in
theorem r6alike_l1 (x0 : Bool) (x1 : List Int) (x2 : Int) (a3 a4 : List S74) (a5 : List S118) (y0 : Bool) (y1 : List Int) (y2 : Int) (b3 b4 : List S74) (b5 : List S118) (he : a5.length = b5.length) (h3 : a3.length ≤ 1048576) (h4 : a4.length ≤ 1048576) (h5 : a5.length ≤ 1048576) :
    ∀ (m j K : Nat), j + m = a5.length → m + a3.length + a4.length + 2 ≤ K → ratchetref06_alike.l1 K (j : Int) x0 x1 x2 a3 a4 a5 y0 y1 y2 b3 b4 b5 = some (decide (a5.drop j = b5.drop j ∧ a3 = b3 ∧ a4 = b4)) := by
  intro m
  induction m with
  | zero =>
    intro j K hj hK
    obtain ⟨K, rfl⟩ : ∃ k, K = k + 1 := ⟨K - 1, by omega⟩
    have hjl : j = a5.length := by omega
    rw [ratchetref06_alike.l1, if_neg (nltI hjl), r6sames a3 b3 h3 K (by omega), Option.bind_some, hjl, List.drop_length, he, List.drop_length]
    by_cases e3 : a3 = b3
    · rw [if_pos (by simp [e3]), r6sames a4 b4 h4 K (by omega), Option.bind_some]
      simp [e3]
    · rw [if_neg (by simp [e3])]
      simp [e3]
  | succ m ih =>
    intro j K hj hK
    obtain ⟨K, rfl⟩ : ∃ k, K = k + 1 := ⟨K - 1, by omega⟩
    have hlt : j < a5.length := by omega
    have hlb : j < b5.length := by omega
    rw [ratchetref06_alike.l1, if_pos (ltI hlt), if_pos (geI j), if_pos (ltI hlb), rdFT_at a5 j hlt, rdFT_at b5 j hlb]
    by_cases h : a5[j] = b5[j]
    · rw [if_neg (by rw [ft_ne]; exact fun x => x h), wrapS j (by omega), ih (j + 1) K (by omega) (by omega)]
      exact congrArg some (decide_eq_decide.2 (by rw [drop_iff hlt hlb h]))
    · rw [if_pos (by rw [ft_ne]; exact h), decide_eq_false (fun e => drop_ne hlt hlb h e.1)]
open Classical in
theorem r6alike_l0 (x0 : Bool) (a1 : List Int) (x2 : Int) (a3 a4 : List S74) (a5 : List S118) (y0 : Bool) (b1 : List Int) (y2 : Int) (b3 b4 : List S74) (b5 : List S118) (he1 : a1.length = b1.length) (he : a5.length = b5.length) (h1 : a1.length ≤ 1048576) (h3 : a3.length ≤ 1048576) (h4 : a4.length ≤ 1048576) (h5 : a5.length ≤ 1048576) :
    ∀ (m j K : Nat), j + m = a1.length → m + a3.length + a4.length + a5.length + 3 ≤ K → ratchetref06_alike.l0 K (j : Int) x0 a1 x2 a3 a4 a5 y0 b1 y2 b3 b4 b5 = some (decide (a1.drop j = b1.drop j ∧ a5 = b5 ∧ a3 = b3 ∧ a4 = b4)) := by
  intro m
  induction m with
  | zero =>
    intro j K hj hK
    obtain ⟨K, rfl⟩ : ∃ k, K = k + 1 := ⟨K - 1, by omega⟩
    have hjl : j = a1.length := by omega
    have := r6alike_l1 x0 a1 x2 a3 a4 a5 y0 b1 y2 b3 b4 b5 he h3 h4 h5 a5.length 0 K (by omega) (by omega)
    rw [ratchetref06_alike.l0, if_neg (nltI hjl), hjl, List.drop_length, he1, List.drop_length]
    simpa using this
  | succ m ih =>
    intro j K hj hK
    obtain ⟨K, rfl⟩ : ∃ k, K = k + 1 := ⟨K - 1, by omega⟩
    have hlt : j < a1.length := by omega
    have hlb : j < b1.length := by omega
    rw [ratchetref06_alike.l0, if_pos (ltI hlt), if_pos (geI j), if_pos (ltI hlb), rdI_at a1 j hlt, rdI_at b1 j hlb]
    by_cases h : a1[j] = b1[j]
    · rw [if_pos h, wrapS j (by omega), ih (j + 1) K (by omega) (by omega)]
      exact congrArg some (decide_eq_decide.2 (by rw [drop_iff hlt hlb h]))
    · rw [if_neg h, decide_eq_false (fun e => drop_ne hlt hlb h e.1)]
open Classical in
theorem r6alike (a b : S53) (hw : wS a ≤ 1048576) (K : Nat) (hK : wS a + 4 ≤ K) : ratchetref06_alike.f K a.f0 a.f1 a.f2.f0 a.f2.f1 a.f2.f2 a.f2.f3 b.f0 b.f1 b.f2.f0 b.f2.f1 b.f2.f2 b.f2.f3 = some (decide (a = b)) := by
  unfold wS at hw hK
  obtain ⟨K, rfl⟩ : ∃ k, K = k + 1 := ⟨K - 1, by omega⟩
  obtain ⟨a0, a1, ⟨a2, a3, a4, a5⟩⟩ := a
  obtain ⟨b0, b1, ⟨b2, b3, b4, b5⟩⟩ := b
  simp only at hw hK ⊢
  unfold ratchetref06_alike.f
  simp only [S53.mk.injEq, S51.mk.injEq]
  by_cases e0 : a0 = b0
  · rw [if_neg (by simp [e0])]
    by_cases e1 : a1.length = b1.length
    · rw [if_pos (by omega)]
      by_cases e2 : a2 = b2
      · rw [if_pos e2, ratchetref06_alike.j0]
        by_cases e5 : a5.length = b5.length
        · rw [if_neg (by simp [e5])]
          have := r6alike_l0 a0 a1 a2 a3 a4 a5 b0 b1 b2 b3 b4 b5 e1 e5 (by omega) (by omega) (by omega) (by omega) a1.length 0 K (by omega) (by omega)
          rw [show ((0 : Nat) : Int) = 0 from rfl] at this
          rw [this]
          simp only [List.drop_zero, e0, e2, true_and]
          congr 1
          rw [decide_eq_decide]
          constructor
          · rintro ⟨p, q, r, s⟩; exact ⟨p, r, s, q⟩
          · rintro ⟨p, q, r, s⟩; exact ⟨p, s, q, r⟩
        · rw [if_pos (by simp; omega), decide_eq_false (fun h => e5 (by rw [h.2.2.2.2.2]))]
      · rw [if_neg e2, ratchetref06_alike.j0, if_pos rfl, decide_eq_false (fun h => e2 h.2.2.1)]
    · rw [if_neg (by omega), ratchetref06_alike.j0, if_pos rfl, decide_eq_false (fun h => e1 (by rw [h.2.1]))]
  · rw [if_pos (by simp [e0]), ratchetref06_alike.j0, if_pos rfl, decide_eq_false (fun h => e0 h.1)]
open Classical in
theorem r6groups_l0 (a b : List S53) (he : a.length = b.length) (hw : wG a ≤ 1048576) : ∀ (m j K : Nat), j + m = a.length → m + wG a + 5 ≤ K → ratchetref06_groups.l0 K a b (j : Int) = some (decide (a.drop j = b.drop j)) := by
  have hn := length_le_wG a
  intro m
  induction m with
  | zero =>
    intro j K hj hK
    obtain ⟨K, rfl⟩ : ∃ k, K = k + 1 := ⟨K - 1, by omega⟩
    have hjl : j = a.length := by omega
    rw [ratchetref06_groups.l0, if_neg (nltI hjl), hjl, List.drop_length, he, List.drop_length]
    simp
  | succ m ih =>
    intro j K hj hK
    obtain ⟨K, rfl⟩ : ∃ k, K = k + 1 := ⟨K - 1, by omega⟩
    have hlt : j < a.length := by omega
    have hlb : j < b.length := by omega
    have hws := wS_le_wG (List.getElem_mem hlt)
    rw [ratchetref06_groups.l0, if_pos (ltI hlt), if_pos (geI j), if_pos (ltI hlb), rdST_at a j hlt, rdST_at b j hlb, r6alike a[j] b[j] (by omega) K (by omega), Option.bind_some]
    by_cases h : a[j] = b[j]
    · rw [if_pos (by simp [h]), wrapS j (by omega), ih (j + 1) K (by omega) (by omega)]
      exact congrArg some (decide_eq_decide.2 (by rw [drop_iff hlt hlb h]))
    · rw [if_neg (by simp [h]), decide_eq_false (drop_ne hlt hlb h)]
open Classical in
theorem r6groups (a b : List S53) (hw : wG a ≤ 1048576) (K : Nat) (hK : a.length + wG a + 5 ≤ K) : ratchetref06_groups.f K a b = some (decide (a = b)) := by
  unfold ratchetref06_groups.f
  by_cases he : a.length = b.length
  · rw [if_pos (by omega)]
    have := r6groups_l0 a b he hw a.length 0 K (by omega) hK
    simpa using this
  · rw [if_neg (by omega), decide_eq_false (fun e => he (by rw [e]))]
theorem r5count_l0 (l : List S62) (hn : l.length ≤ 1048576) (ht : tcount l ≤ 1048576) : ∀ (m j K : Nat), j + m = l.length → m + 1 ≤ K → ratchetref05_Count.l0 K l (tcount (l.take j) : Nat) (j : Int) = some ((tcount l : Nat) : Int) := by
  intro m
  induction m with
  | zero =>
    intro j K hj hK
    obtain ⟨K, rfl⟩ : ∃ k, K = k + 1 := ⟨K - 1, by omega⟩
    have hjl : j = l.length := by omega
    rw [ratchetref05_Count.l0, if_neg (nltI hjl), hjl, List.take_length]
  | succ m ih =>
    intro j K hj hK
    obtain ⟨K, rfl⟩ : ∃ k, K = k + 1 := ⟨K - 1, by omega⟩
    have hlt : j < l.length := by omega
    have hr := List.getElem?_eq_getElem hlt
    have h1 := tcount_take l j _ hr
    have h2 := tcount_take_le l j _ hr
    have e : wrap64 ((tcount (l.take j) : Nat) + (l[j].f0.length : Int)) = (tcount (l.take (j + 1)) : Nat) := by rw [h1]; unfold wrap64; omega
    rw [ratchetref05_Count.l0, if_pos (ltI hlt), if_pos (geI j), rdRT_at l j hlt, e, wrapS j (by omega), ih (j + 1) K (by omega) (by omega)]
theorem r5count (l : List S62) (hn : l.length ≤ 1048576) (ht : tcount l ≤ 1048576) (K : Nat) (hK : l.length + 1 ≤ K) : ratchetref05_Count.f K l = some ((tcount l : Nat) : Int) := by
  have := r5count_l0 l hn ht l.length 0 K (by omega) hK
  unfold ratchetref05_Count.f
  simpa [tcount] using this
def heapsOf (l : List S74) : List Int := (l.filter fun v => decide (v.f0 = 5)).map fun v => v.f2
theorem heapsOf_cons (v : S74) (l : List S74) : heapsOf (v :: l) = if v.f0 = 5 then v.f2 :: heapsOf l else heapsOf l := by
  unfold heapsOf
  by_cases h : v.f0 = 5
  · rw [List.filter_cons_of_pos (by simp [h]), if_pos h]; rfl
  · rw [List.filter_cons_of_neg (by simp [h]), if_neg h]
theorem wL_drop (l : List S62) (j : Nat) (h : j < l.length) : wL (l.drop j) = wG l[j].f0 + wL (l.drop (j + 1)) := by
  rw [List.drop_eq_getElem_cons h]
  unfold wL
  rw [List.map_cons, List.sum_cons]
theorem heapsOf_len (l : List S74) : (heapsOf l).length ≤ l.length := by unfold heapsOf; rw [List.length_map]; exact List.length_filter_le _ _
theorem mem_heapsOf (l : List S74) (h : Int) : h ∈ heapsOf l ↔ ∃ v ∈ l, v.f0 = 5 ∧ v.f2 = h := by
  unfold heapsOf
  simp only [List.mem_map, List.mem_filter, decide_eq_true_eq]
  constructor
  · rintro ⟨v, ⟨h1, h2⟩, h3⟩; exact ⟨v, h1, h2, h3⟩
  · rintro ⟨v, h1, h2, h3⟩; exact ⟨v, ⟨h1, h2⟩, h3⟩
theorem r5heaps_l0 (l : List S74) (hn : l.length ≤ 1048576) : ∀ (m j K : Nat) (acc : List Int), j + m = l.length → m + 1 ≤ K → acc.length ≤ j → ratchetref05_heaps.l0 K l acc (j : Int) = some (acc ++ heapsOf (l.drop j)) := by
  intro m
  induction m with
  | zero =>
    intro j K acc hj hK ha
    obtain ⟨K, rfl⟩ : ∃ k, K = k + 1 := ⟨K - 1, by omega⟩
    have hjl : j = l.length := by omega
    rw [ratchetref05_heaps.l0, if_neg (nltI hjl), hjl, List.drop_length]
    simp [heapsOf]
  | succ m ih =>
    intro j K acc hj hK ha
    obtain ⟨K, rfl⟩ : ∃ k, K = k + 1 := ⟨K - 1, by omega⟩
    have hlt : j < l.length := by omega
    rw [ratchetref05_heaps.l0, if_pos (ltI hlt), if_pos (geI j), rdVT_at l j hlt, List.drop_eq_getElem_cons hlt]
    by_cases h5 : l[j].f0 = 5
    · rw [if_pos h5, if_pos (by omega), wrapS j (by omega), ih (j + 1) K _ (by omega) (by omega) (by simp; omega), heapsOf_cons, if_pos h5, List.append_assoc]
      rfl
    · rw [if_neg h5, wrapS j (by omega), ih (j + 1) K _ (by omega) (by omega) (by omega), heapsOf_cons, if_neg h5]
theorem r5heaps (l : List S74) (hn : l.length ≤ 1048576) (K : Nat) (hK : l.length + 1 ≤ K) : ratchetref05_heaps.f K l = some (heapsOf l) := by
  have := r5heaps_l0 l hn l.length 0 K [] (by omega) hK (by simp)
  unfold ratchetref05_heaps.f
  simpa using this
def allOf (s : S53) : List Int := s.f1 ++ heapsOf s.f2.f1 ++ heapsOf s.f2.f2 ++ heapsOf (s.f2.f3.map fun f => f.f0)
theorem allOf_len (s : S53) : (allOf s).length ≤ wS s := by
  unfold allOf wS
  have h1 := heapsOf_len s.f2.f1
  have h2 := heapsOf_len s.f2.f2
  have h3 := heapsOf_len (s.f2.f3.map fun f => f.f0)
  simp only [List.length_append, List.length_map] at *
  omega
theorem r5All_l0 (a0 : Bool) (l1 : List Int) (a2 : Int) (l3 l4 : List S74) (l5 : List S118) (hn : l5.length ≤ 1048576) : ∀ (m j K : Nat) (acc : List Int), j + m = l5.length → m + 3 ≤ K → acc.length ≤ 4194304 + j → ratchetref05_All.l0 K acc (j : Int) a0 l1 a2 l3 l4 l5 = some (acc ++ heapsOf ((l5.drop j).map fun f => f.f0)) := by
  intro m
  induction m with
  | zero =>
    intro j K acc hj hK ha
    obtain ⟨K, rfl⟩ : ∃ k, K = k + 1 := ⟨K - 1, by omega⟩
    have hjl : j = l5.length := by omega
    rw [ratchetref05_All.l0, if_neg (nltI hjl), hjl, List.drop_length]
    simp [heapsOf]
  | succ m ih =>
    intro j K acc hj hK ha
    obtain ⟨K, rfl⟩ : ∃ k, K = k + 1 := ⟨K - 1, by omega⟩
    have hlt : j < l5.length := by omega
    have e := heapsOf_len [l5[j].f0]
    simp only [List.length_singleton] at e
    rw [ratchetref05_All.l0, if_pos (ltI hlt), if_pos (geI j), rdFT_at l5 j hlt, List.drop_eq_getElem_cons hlt]
    have e2 : ([(⟨l5[j].f0.f0, l5[j].f0.f1, l5[j].f0.f2⟩ : S74)] : List S74) = [l5[j].f0] := rfl
    rw [e2, r5heaps [l5[j].f0] (by simp) K (by simp; omega), Option.bind_some, if_pos (by omega), wrapS j (by omega), ih (j + 1) K _ (by omega) (by omega) (by rw [List.length_append]; omega)]
    rw [List.map_cons, List.append_assoc]
    congr 2
    unfold heapsOf
    rw [← List.map_append, ← List.filter_append]
    rfl
theorem r5All (s : S53) (hw : wS s ≤ 1048576) (K : Nat) (hK : wS s + 3 ≤ K) : ratchetref05_All.f K s.f0 s.f1 s.f2.f0 s.f2.f1 s.f2.f2 s.f2.f3 = some (allOf s) := by
  unfold wS at hw hK
  have h1 := heapsOf_len s.f2.f1
  have h2 := heapsOf_len s.f2.f2
  unfold ratchetref05_All.f allOf
  rw [if_pos (by simp; omega), Option.bind_some, List.nil_append, r5heaps _ (by omega) K (by omega), Option.bind_some, if_pos (by omega), Option.bind_some, r5heaps _ (by omega) K (by omega), Option.bind_some, if_pos (by rw [List.length_append]; omega)]
  have := r5All_l0 s.f0 s.f1 s.f2.f0 s.f2.f1 s.f2.f2 s.f2.f3 (by omega) s.f2.f3.length 0 K (s.f1 ++ heapsOf s.f2.f1 ++ heapsOf s.f2.f2) (by omega) (by omega) (by simp only [List.length_append]; omega)
  simpa using this
open Classical in
theorem r5fine_l1 (en : Int) (l : List Int) (hn : l.length ≤ 4194304) : ∀ (m j K : Nat), j + m = l.length → m + 1 ≤ K → ratchetref05_fine.l1 K en l (j : Int) = some (decide (∀ h ∈ l.drop j, -12 ≤ h ∧ h < en)) := by
  intro m
  induction m with
  | zero =>
    intro j K hj hK
    obtain ⟨K, rfl⟩ : ∃ k, K = k + 1 := ⟨K - 1, by omega⟩
    have hjl : j = l.length := by omega
    rw [ratchetref05_fine.l1, if_neg (nltI hjl), hjl, List.drop_length]
    simp
  | succ m ih =>
    intro j K hj hK
    obtain ⟨K, rfl⟩ : ∃ k, K = k + 1 := ⟨K - 1, by omega⟩
    have hlt : j < l.length := by omega
    rw [ratchetref05_fine.l1, if_pos (ltI hlt), if_pos (geI j), rdI_at l j hlt]
    have key : (∀ h ∈ l.drop j, -12 ≤ h ∧ h < en) ↔ (-12 ≤ l[j] ∧ l[j] < en) ∧ ∀ h ∈ l.drop (j + 1), -12 ≤ h ∧ h < en := by
      rw [List.drop_eq_getElem_cons hlt]
      simp only [List.mem_cons, forall_eq_or_imp]
    by_cases h1 : l[j] ≥ en
    · rw [if_pos h1, decide_eq_false (fun h => by have := (key.1 h).1; omega)]
    · rw [if_neg h1]
      by_cases h2 : l[j] < -12
      · rw [if_pos h2, decide_eq_false (fun h => by have := (key.1 h).1; omega)]
      · rw [if_neg h2, wrapS j (by omega), ih (j + 1) K (by omega) (by omega)]
        refine congrArg some (decide_eq_decide.2 ?_)
        rw [key]
        exact ⟨fun h => ⟨⟨by omega, by omega⟩, h⟩, fun h => h.2⟩
open Classical in
theorem r5fine_l0 (en : Int) (s : S53) (hw : wS s ≤ 1048576) : ∀ (m j K : Nat), j + m = s.f1.length → m + 2 * wS s + 8 ≤ K → ratchetref05_fine.l0 K en (j : Int) s.f0 s.f1 s.f2.f0 s.f2.f1 s.f2.f2 s.f2.f3 = some (decide ((∀ h ∈ s.f1.drop j, 0 ≤ h ∧ h < en) ∧ ∀ h ∈ allOf s, -12 ≤ h ∧ h < en)) := by
  have hw' := hw
  unfold wS at hw'
  intro m
  induction m with
  | zero =>
    intro j K hj hK
    obtain ⟨K, rfl⟩ : ∃ k, K = k + 1 := ⟨K - 1, by omega⟩
    have hjl : j = s.f1.length := by omega
    have ha := allOf_len s
    have := r5fine_l1 en (allOf s) (by omega) (allOf s).length 0 K (by omega) (by omega)
    rw [show ((0 : Nat) : Int) = 0 from rfl] at this
    rw [ratchetref05_fine.l0, if_neg (nltI hjl), r5All s hw K (by omega), Option.bind_some, this, hjl, List.drop_length]
    refine congrArg some (decide_eq_decide.2 ?_)
    rw [List.drop_zero]
    exact ⟨fun h => ⟨fun _ hx => by simp at hx, h⟩, fun h => h.2⟩
  | succ m ih =>
    intro j K hj hK
    obtain ⟨K, rfl⟩ : ∃ k, K = k + 1 := ⟨K - 1, by omega⟩
    have hlt : j < s.f1.length := by omega
    rw [ratchetref05_fine.l0, if_pos (ltI hlt), if_pos (geI j), rdI_at s.f1 j hlt]
    have key : (∀ h ∈ s.f1.drop j, 0 ≤ h ∧ h < en) ↔ (0 ≤ s.f1[j] ∧ s.f1[j] < en) ∧ ∀ h ∈ s.f1.drop (j + 1), 0 ≤ h ∧ h < en := by
      rw [List.drop_eq_getElem_cons hlt]
      simp only [List.mem_cons, forall_eq_or_imp]
    by_cases h1 : s.f1[j] < 0
    · rw [if_pos h1, decide_eq_false (fun h => by have := (key.1 h.1).1; omega)]
    · rw [if_neg h1]
      by_cases h2 : s.f1[j] ≥ en
      · rw [if_pos h2, decide_eq_false (fun h => by have := (key.1 h.1).1; omega)]
      · rw [if_neg h2, wrapS j (by omega), ih (j + 1) K (by omega) (by omega)]
        refine congrArg some (decide_eq_decide.2 ?_)
        rw [key]
        exact ⟨fun h => ⟨⟨⟨by omega, by omega⟩, h.1⟩, h.2⟩, fun h => ⟨h.1.2, h.2⟩⟩
theorem allOf_iff (en : Int) (s : S53) : (∀ h ∈ allOf s, -12 ≤ h ∧ h < en) ↔ TQ (fun h => -12 ≤ h ∧ h < en) s := by
  unfold allOf
  simp only [List.mem_append, mem_heapsOf, List.mem_map]
  constructor
  · intro h
    refine ⟨fun x hx => h x (.inl (.inl (.inl hx))), fun v hv e => h _ (.inl (.inl (.inr ⟨v, hv, e, rfl⟩))), fun v hv e => h _ (.inl (.inr ⟨v, hv, e, rfl⟩)), fun v hv e => h _ (.inr ⟨v.f0, ⟨v, hv, rfl⟩, e, rfl⟩)⟩
  · rintro ⟨h1, h2, h3, h4⟩ x (((hx | ⟨v, hv, e, rfl⟩) | ⟨v, hv, e, rfl⟩) | ⟨_, ⟨v, hv, rfl⟩, e, rfl⟩)
    · exact h1 x hx
    · exact h2 v hv e
    · exact h3 v hv e
    · exact h4 v hv e
theorem r5fine (en : Int) (s : S53) (hw : wS s ≤ 1048576) (K : Nat) (hK : 3 * wS s + 8 ≤ K) : ratchetref05_fine.f K s.f0 s.f1 s.f2.f0 s.f2.f1 s.f2.f2 s.f2.f3 en = some (typeOk en s) := by
  have := r5fine_l0 en s hw s.f1.length 0 K (by omega) (by unfold wS at *; omega)
  unfold ratchetref05_fine.f
  rw [show (0 : Int) = ((0 : Nat) : Int) from rfl, this, List.drop_zero]
  refine congrArg some ?_
  rw [Bool.eq_iff_iff, decide_eq_true_eq, typeOk_iff, allOf_iff]
  constructor
  · rintro ⟨h1, h2⟩; exact ⟨fun h hh => (h1 h hh).1, h2⟩
  · rintro ⟨h1, h2⟩; exact ⟨fun h hh => ⟨h1 h hh, (h2.q1 h hh).2⟩, h2⟩
/-- The first type that speaks of what it may not: its number, of a list that is not closed. -/
structure BadAt (l : List S62) (n : Nat) : Prop where
  at_ : ∃ (j i : Nat) (r : S62) (s : S53), l[j]? = some r ∧ r.f0[i]? = some s ∧ n = tcount (l.take j) + i ∧ typeOk (tcount (l.take (j + 1)) : Nat) s = false ∧
    (∀ (j' : Nat) (r' : S62), j' < j → l[j']? = some r' → ∀ s' ∈ r'.f0, typeOk (tcount (l.take (j' + 1)) : Nat) s' = true) ∧ ∀ (i' : Nat) (s' : S53), i' < i → r.f0[i']? = some s' → typeOk (tcount (l.take (j + 1)) : Nat) s' = true
theorem BadAt.not {l : List S62} {n : Nat} (h : BadAt l n) : ¬ Clo l := by
  obtain ⟨j, i, r, s, hr, hs, _, hb, _⟩ := h.at_
  intro hc
  rw [hc j r hr s (List.mem_of_getElem? hs)] at hb
  cases hb
/-- What Closed answers. -/
def CloOut (l : List S62) (n e : Int) : Prop := (Clo l ∧ n = 0 ∧ e = 0) ∨ ∃ m : Nat, BadAt l m ∧ n = m ∧ e = 50
theorem r5closed_l (l : List S62) (hn : l.length ≤ 1048576) (hw : wL l ≤ 1048576) : ∀ (m j K : Nat), j + m = l.length → 4 * m + 4 * wL (l.drop j) + 40 ≤ K → (∀ (j' : Nat) (r' : S62), j' < j → l[j']? = some r' → ∀ s' ∈ r'.f0, typeOk (tcount (l.take (j' + 1)) : Nat) s' = true) →
    ∃ n e, ratchetref05_Closed.l0 K l (tcount (l.take j) : Nat) (j : Int) = some (n, e) ∧ CloOut l n e := by
  have htl := tcount_le_wL l
  intro m
  induction m with
  | zero =>
    intro j K hj hK hpre
    obtain ⟨K, rfl⟩ : ∃ k, K = k + 1 := ⟨K - 1, by omega⟩
    have hjl : j = l.length := by omega
    rw [ratchetref05_Closed.l0, if_neg (nltI hjl)]
    refine ⟨0, 0, rfl, .inl ⟨fun j' r' hr' s' hs' => ?_, rfl, rfl⟩⟩
    exact hpre j' r' (by have := (List.getElem?_eq_some_iff.1 hr').1; omega) hr' s' hs'
  | succ m ih =>
    intro j K hj hK hpre
    obtain ⟨K, rfl⟩ : ∃ k, K = k + 1 := ⟨K - 1, by omega⟩
    have hlt : j < l.length := by omega
    have hr := List.getElem?_eq_getElem hlt
    have h1 := tcount_take l j _ hr
    have h2 := tcount_take_le l j _ hr
    have hwd : wL (l.drop j) = wG l[j].f0 + wL (l.drop (j + 1)) := wL_drop l j hlt
    have hgl := length_le_wG l[j].f0
    have hgw := wG_le_wL (List.getElem_mem hlt)
    have e : wrap64 ((tcount (l.take j) : Nat) + (l[j].f0.length : Int)) = (tcount (l.take (j + 1)) : Nat) := by rw [h1]; unfold wrap64; omega
    rw [ratchetref05_Closed.l0, if_pos (ltI hlt), if_pos (geI j), rdRT_at l j hlt, e]
    clear e
    have inner : ∀ (p i Q : Nat), i + p = l[j].f0.length → p + 3 * wG l[j].f0 + 4 * m + 4 * wL (l.drop (j + 1)) + 42 ≤ Q → (∀ (i' : Nat) (s' : S53), i' < i → l[j].f0[i']? = some s' → typeOk (tcount (l.take (j + 1)) : Nat) s' = true) →
        ∃ n e, ratchetref05_Closed.l1 Q l (tcount (l.take j) : Nat) (j : Int) (tcount (l.take (j + 1)) : Nat) (i : Int) = some (n, e) ∧ CloOut l n e := by
      intro p
      induction p with
      | zero =>
        intro i Q hi hQ hin
        obtain ⟨Q, rfl⟩ : ∃ k, Q = k + 1 := ⟨Q - 1, by omega⟩
        rw [ratchetref05_Closed.l1, if_pos (geI j), if_pos (ltI hlt), rdRT_at l j hlt, if_neg (nltI (by omega)), wrapS j (by omega)]
        refine ih (j + 1) Q (by omega) (by omega) (fun j' r' hj' hr' s' hs' => ?_)
        rcases Nat.lt_or_ge j' j with hl | hl
        · exact hpre j' r' hl hr' s' hs'
        · have ej : j' = j := by omega
          subst ej
          rw [hr] at hr'
          injection hr' with hr'
          subst hr'
          obtain ⟨i', hi', rfl⟩ := List.getElem_of_mem hs'
          exact hin i' _ (by omega) (List.getElem?_eq_getElem hi')
      | succ p ihp =>
        intro i Q hi hQ hin
        obtain ⟨Q, rfl⟩ : ∃ k, Q = k + 1 := ⟨Q - 1, by omega⟩
        have hil : i < l[j].f0.length := by omega
        have hws := wS_le_wG (List.getElem_mem hil)
        rw [ratchetref05_Closed.l1, if_pos (geI j), if_pos (ltI hlt), rdRT_at l j hlt, if_pos (ltI hil), if_pos (geI i), rdST_at l[j].f0 i hil, r5fine _ l[j].f0[i] (by omega) Q (by omega), Option.bind_some]
        cases ht : typeOk (tcount (l.take (j + 1)) : Nat) l[j].f0[i] with
        | true =>
          rw [if_pos rfl, wrapS i (by omega)]
          refine ihp (i + 1) Q (by omega) (by omega) (fun i' s' hi' hs' => ?_)
          rcases Nat.lt_or_ge i' i with hl | hl
          · exact hin i' s' hl hs'
          · have ei : i' = i := by omega
            subst ei
            rw [List.getElem?_eq_getElem hil] at hs'
            injection hs' with hs'
            subst hs'
            exact ht
        | false =>
          rw [if_neg (by simp)]
          refine ⟨_, _, rfl, .inr ⟨tcount (l.take j) + i, ⟨j, i, l[j], l[j].f0[i], hr, List.getElem?_eq_getElem hil, rfl, ht, hpre, hin⟩, ?_, rfl⟩⟩
          unfold wrap64
          omega
    exact inner l[j].f0.length 0 K (by omega) (by omega) (fun i' s' hi' => by omega)
theorem r5closed (l : List S62) (hn : l.length ≤ 1048576) (hw : wL l ≤ 1048576) (K : Nat) (hK : 4 * l.length + 4 * wL l + 40 ≤ K) : ∃ n e, ratchetref05_Closed.f K l = some (n, e) ∧ CloOut l n e := by
  obtain ⟨n, e, h, ho⟩ := r5closed_l l hn hw l.length 0 K (by omega) (by simpa using hK) (fun j' r' hj' => by omega)
  refine ⟨n, e, ?_, ho⟩
  unfold ratchetref05_Closed.f
  simpa [tcount] using h
theorem infoRol : (Tryd.prog.info? 132).map (fun i => (i.zero, i.size, i.bytes)) = some (some (.agg #[.slice none 0 0, .int .i64 0]), 2, 32) := by kernel_rfl
def rolsFrom (n : Int) (gs : List (List S53)) : List S132 := (famsFrom n gs).map fun p => ⟨p.2, p.1⟩
theorem rolsFrom_length (n : Int) (gs : List (List S53)) : (rolsFrom n gs).length = gs.length := by unfold rolsFrom; rw [List.length_map, famsFrom_length]
theorem rolsFrom_snoc (n : Int) (gs : List (List S53)) (g : List S53) : rolsFrom n (gs ++ [g]) = rolsFrom n gs ++ [⟨g, n + manyOf gs⟩] := by unfold rolsFrom; rw [famsFrom_snoc, List.map_append]; rfl
theorem rolsFrom_get (n : Int) (gs : List (List S53)) (i : Nat) (g : List S53) (h : gs[i]? = some g) : (rolsFrom n gs)[i]? = some ⟨g, n + firstOf gs i⟩ := by unfold rolsFrom; rw [List.getElem?_map, famsFrom_get n gs i g h]; rfl
/-- Block g is a table of the reference that holds the groups gs; v: their row. -/
structure R6 (B g : Nat) (ok : Nat → Prop) (gs : List (List S53)) (v : Value) (W : World) : Prop where
  box : W.heap[g]? = some (.cells #[v, .int .i64 (manyOf gs)] 89 (0, 0))
  row : Kd.R k132 132 W B ok v (rolsFrom 0 gs)
  hg : B ≤ g
section
variable {B g : Nat} {ok : Nat → Prop} {gs : List (List S53)} {v : Value} {W W' : World}
theorem R6.below (h : R6 B g ok gs v W) (hb : Below W.heap.size W W') : R6 B g ok gs v W' := ⟨blk_below h.box hb, Kd.R_below h.row hb, h.hg⟩
theorem R6.grown (h : R6 B g ok gs v W) {α : Type} {d : Kd α} {e B' : Nat} {ok' : Nat → Prop} {u : Value} {l : List α} (hr : Kd.R d e W B' ok' u l) (he : e ≠ 89) (hg : W.grownBy W' u.ownBlock) (hok : ∀ k, ok k → some k ≠ u.ownBlock) : R6 B g ok gs v W' :=
  ⟨blk_grown h.box hg (Kd.R_ne hr h.box he), Kd.R_grown h.row hg hok, h.hg⟩
theorem R6.weak (h : R6 B g ok gs v W) {ok' : Nat → Prop} (hk : ∀ k, ok k → ok' k) : R6 B g ok' gs v W := ⟨h.box, Kd.R_mono h.row hk, h.hg⟩
end
/-- What adding to a reference's table leaves of the world w0: blocks below B; and all that is neither the table's block nor a row of its groups. -/
structure FrR (B g : Nat) (w0 W : World) : Prop where
  bel : Below B w0 W
  oth : ∀ (k : Nat) (o : Obj), w0.heap[k]? = some o → k ≠ g → (∀ c fz, o ≠ .cells c 132 fz) → W.heap[k]? = some o
  z : B ≤ w0.heap.size
section
variable {B g : Nat} {w0 W W' : World}
theorem FrR.refl (h : B ≤ w0.heap.size) : FrR B g w0 w0 := ⟨Below.refl _ _, fun _ _ h _ _ => h, h⟩
theorem FrR.zz (h : FrR B g w0 W) : B ≤ W.heap.size := Nat.le_trans h.z h.bel.size
theorem FrR.trans (h : FrR B g w0 W) (k : FrR B g W W') : FrR B g w0 W' := ⟨h.bel.trans k.bel, fun i o hi h1 h2 => k.oth i o (h.oth i o hi h1 h2) h1 h2, h.z⟩
theorem FrR.below (h : FrR B g w0 W) (hb : Below W.heap.size W W') : FrR B g w0 W' :=
  ⟨h.bel.trans (hb.mono h.zz), fun k o hk h1 h2 => by
    have e := h.oth k o hk h1 h2
    exact (hb.block k (Array.getElem?_eq_some_iff.1 e).1).trans e, h.z⟩
/-- A row that the call itself made has grown. -/
theorem FrR.own (h : FrR B g w0 W) {α : Type} {d : Kd α} {e : Nat} {ok : Nat → Prop} {u : Value} {l : List α} (hr : Kd.R d e W w0.heap.size ok u l) (hg : W.grownBy W' u.ownBlock) : FrR B g w0 W' := by
  have hn : ∀ k, k < w0.heap.size → some k ≠ u.ownBlock := fun k hk e0 => by have := own_base' hr k e0.symm; omega
  refine ⟨⟨hg.os.trans h.bel.os, hg.tape.trans h.bel.tape, hg.output.trans h.bel.output, Nat.le_trans h.bel.size hg.size, fun k hk => (hg.block k (by have := h.bel.size; have := h.z; omega) (hn k (by have := h.z; omega))).trans (h.bel.block k hk)⟩, fun k o hk h1 h2 => ?_, h.z⟩
  have e := h.oth k o hk h1 h2
  exact (hg.block k (Array.getElem?_eq_some_iff.1 e).1 (hn k (Array.getElem?_eq_some_iff.1 hk).1)).trans e
/-- The row of groups has grown. -/
theorem FrR.fams (h : FrR B g w0 W) {ok : Nat → Prop} {u : Value} {l : List S132} (hr : Kd.R k132 132 W B ok u l) (hg : W.grownBy W' u.ownBlock) : FrR B g w0 W' := by
  have hn : ∀ k, k < B → some k ≠ u.ownBlock := fun k hk e0 => by have := own_base' hr k e0.symm; omega
  refine ⟨⟨hg.os.trans h.bel.os, hg.tape.trans h.bel.tape, hg.output.trans h.bel.output, Nat.le_trans h.bel.size hg.size, fun k hk => (hg.block k (by have := h.bel.size; have := h.z; omega) (hn k hk)).trans (h.bel.block k hk)⟩, fun k o hk h1 h2 => ?_, h.z⟩
  have e := h.oth k o hk h1 h2
  refine (hg.block k (Array.getElem?_eq_some_iff.1 e).1 (fun e0 => ?_)).trans e
  obtain ⟨_, inner, ho, _⟩ := hr
  obtain ⟨cells, hc⟩ := own_typed ho k e0.symm
  rw [e] at hc
  injection hc with hc
  exact h2 _ _ hc
/-- A store into the table's block. -/
theorem FrR.store (h : FrR B g w0 W) (hg : B ≤ g) (i : Nat) (u : Value) : FrR B g w0 (W.setCell ⟨g, i, none⟩ u) :=
  ⟨h.bel.trans ((Below.refl _ _).setCell hg u), fun k o hk h1 h2 => (Below.heap_setCell W ⟨g, i, none⟩ u k h1).trans (h.oth k o hk h1 h2), h.z⟩
/-- A row of whole numbers stays. -/
theorem FrR.row (hf : FrR B g w0 W) {v : Value} {l : List Int} {B0 : Nat} {ok : Nat → Prop} (hr : Kd.R (Kd.int .i64) 3 w0 B0 ok v l) (hg : ∃ cs t, w0.heap[g]? = some (.cells cs t (0, 0)) ∧ t ≠ 3) : Kd.R (Kd.int .i64) 3 W B0 (fun _ => True) v l := by
  refine Kd.R_mono (Kd.R_step (Kd.R_bound hr) (w1 := W) (fun k hk hlt => ?_)) (fun _ _ => trivial)
  obtain ⟨_, _, _, q, hq, cells, hc⟩ := hk
  have hq3 : q = 3 := List.mem_singleton.1 hq
  subst hq3
  rw [hc]
  refine hf.oth k _ hc ?_ ?_
  · rintro rfl
    obtain ⟨cs, t, h1, h2⟩ := hg
    rw [h1] at hc
    injection hc with hc
    injection hc with _ hc _
    exact h2 hc
  · intro c_ fz_ e
    injection e with _ e _
    exact absurd e (by decide)
end
/-- What laying down a group answers, and what it leaves. -/
def oneF (gs : List (List S53)) (o : List S53) : Int := match findK gs o with | some i => firstOf gs i | none => manyOf gs
def oneG (gs : List (List S53)) (o : List S53) : List (List S53) := match findK gs o with | some _ => gs | none => gs ++ [o]
theorem oneF_some {gs : List (List S53)} {o : List S53} {i : Nat} (h : findK gs o = some i) : oneF gs o = firstOf gs i := by unfold oneF; rw [h]
theorem oneF_none {gs : List (List S53)} {o : List S53} (h : findK gs o = none) : oneF gs o = manyOf gs := by unfold oneF; rw [h]
theorem oneG_some {gs : List (List S53)} {o : List S53} {i : Nat} (h : findK gs o = some i) : oneG gs o = gs := by unfold oneG; rw [h]
theorem oneG_none {gs : List (List S53)} {o : List S53} (h : findK gs o = none) : oneG gs o = gs ++ [o] := by unfold oneG; rw [h]
/-- Blocks that were let in, or are new. -/
def OkN (ok : Nat → Prop) (n : Nat) (k : Nat) : Prop := ok k ∨ n ≤ k
/-- one: while the group is rolled up (loop 1), and while it is looked for (loop 2). -/
structure RO (B g : Nat) (ok : Nat → Prop) (gs : List (List S53)) (v : Value) (w : World) (bx : Obj) (vo : Value) (o : List S53) (W : World) : Prop where
  t : R6 B g (fun k => OkN ok w.heap.size k ∧ some k ≠ vo.ownBlock) gs v W
  ov : Kd.R k53 53 W w.heap.size (fun _ => True) vo o
  fr : FrR B g w W
  bx : W.heap[w.heap.size]? = some bx
section
variable {B g : Nat} {ok : Nat → Prop} {gs : List (List S53)} {v vo vo' : Value} {w W W' : World} {o o' : List S53} {cs : Array Value}
theorem RO.start (hT : R6 B g ok gs v w) (hB : B ≤ w.heap.size) (cs : Array Value) : RO B g ok gs v w (.cells cs 62 (0, 0)) (.slice none 0 0) [] (w.alloc (.cells cs 62)) :=
  have hb := (Below.refl w.heap.size w).alloc (Nat.le_refl _) (.cells cs 62)
  ⟨(hT.below hb).weak (fun k hk => ⟨.inl hk, by simp [Value.ownBlock]⟩), Kd.R_nil _ _ _ _ _, (FrR.refl hB).below hb, blk_new w _⟩
theorem RO.below (h : RO B g ok gs v w (.cells cs 62 (0, 0)) vo o W) (hb : Below W.heap.size W W') : RO B g ok gs v w (.cells cs 62 (0, 0)) vo o W' :=
  ⟨h.t.below hb, Kd.R_below h.ov hb, h.fr.below hb, blk_below h.bx hb⟩
theorem RO.app (h : RO B g ok gs v w (.cells cs 62 (0, 0)) vo o W) (hr : Kd.R k53 53 W' w.heap.size (fun _ => True) vo' o') (hg : W.grownBy W' vo.ownBlock) (hat : vo'.ownBlock = vo.ownBlock ∨ ∃ b, vo'.ownBlock = some b ∧ W.heap.size ≤ b) : RO B g ok gs v w (.cells cs 62 (0, 0)) vo' o' W' := by
  have t1 := h.t.grown h.ov (by decide) hg (fun k hk => hk.2)
  refine ⟨⟨t1.box, Kd.R_mono (Kd.R_after (ok := OkN ok w.heap.size) h.t.row hg hat) (fun k hk => hk), t1.hg⟩, hr, h.fr.own h.ov hg, blk_grown h.bx hg (Kd.R_ne h.ov h.bx (by decide))⟩
end
theorem findK_first {gs : List (List S53)} {o : List S53} {i : Nat} (hi : gs[i]? = some o) (hn : ∀ (j : Nat) (x : List S53), j < i → gs[j]? = some x → x ≠ o) : findK gs o = some i := by
  unfold findK
  rw [List.findIdx?_eq_some_iff_getElem]
  obtain ⟨h1, h2⟩ := List.getElem?_eq_some_iff.1 hi
  refine ⟨h1, by rw [h2]; simp, fun j hj => ?_⟩
  have := hn j gs[j] hj (List.getElem?_eq_getElem (by omega))
  simp only [beq_iff_eq, Bool.not_eq_true]
  exact fun e => this (keyT_inj _ _ e)
theorem findK_no {gs : List (List S53)} {o : List S53} (hn : ∀ (j : Nat) (x : List S53), j < gs.length → gs[j]? = some x → x ≠ o) : findK gs o = none := by
  unfold findK
  rw [List.findIdx?_eq_none_iff]
  intro x hx
  obtain ⟨j, hj, rfl⟩ := List.getElem_of_mem hx
  have := hn j _ hj (List.getElem?_eq_getElem hj)
  simp only [beq_eq_false_iff_ne]
  exact fun e => this (keyT_inj _ _ e)
theorem rdRol_at (l : List S132) (j : Nat) (x : S132) (h : l[j]? = some x) : rd_T132 l (j : Int) = x := by
  obtain ⟨hj, rfl⟩ := List.getElem?_eq_some_iff.1 h
  simp [rd_T132, List.getD_eq_getElem?_getD, List.getElem?_eq_getElem hj]
/-- The row of groups of a reference's table has grown, its block is told so: a group more. -/
theorem R6.put {B g : Nat} {ok : Nat → Prop} {gs : List (List S53)} {v v' : Value} {W W' : World} {o : List S53} (h : R6 B g ok gs v W) (hr : Kd.R k132 132 W' B ok v' (rolsFrom 0 (gs ++ [o]))) (hg : W.grownBy W' v.ownBlock) :
    R6 B g ok (gs ++ [o]) v' ((W'.setCell ⟨g, 0, none⟩ v').setCell ⟨g, 1, none⟩ (.int .i64 (manyOf gs + o.length))) := by
  have bx := blk_grown h.box hg (Kd.R_ne h.row h.box (by decide))
  have b1 := blk_set bx 0 v'
  have b2 := blk_set b1 1 (.int .i64 (manyOf gs + o.length))
  refine ⟨by rw [manyOf_snoc]; simpa using b2, Kd.R_set (Kd.R_set hr bx (by decide) 0 v') b1 (by decide) 1 _, h.hg⟩
end Go.Proofs.YtfgglniigeagdaaDoor.Cn
