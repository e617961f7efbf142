/- Parts of the proof of canonUnrolled_holds (12 of 17): what it says and shows stands at its declarations. -/
import Derived.Test.YtfgglniigeagdaaDoorZUr11
import Derived.Laws.ResultCell
import Derived.Maps.RangeWalk
import Derived.Maps.Ext
import Derived.Sort.MapsRangeIn
import Derived.LoopTactic
namespace Go.Proofs.YtfgglniigeagdaaDoor.Cn
set_option linter.unusedSimpArgs false
set_option linter.unusedVariables false
open Go.RowKit Go.Maps Go.Proofs.YtfgglniigeagdaaDoorW.PrintWords Go.Proofs.YtfgglniigeagdaaDoorW.PrintLast Go.Proofs.YtfgglniigeagdaaDoorW.PrintMore Go.Proofs.YtfgglniigeagdaaDoor.QD
/-- p is nil, or leads to a table that was not made. -/
inductive Zt (w : World) : Value → Prop
  | nil : Zt w (.pointer none)
  | cell (g : Nat) (h : w.cell? ⟨g, 3, none⟩ = some (.bool false)) : Zt w (.pointer (some ⟨g, 0, none⟩))
theorem Zt.below {w w' : World} {p : Value} (h : Zt w p) (hb : Below w.heap.size w w') : Zt w' p := by
  cases h with
  | nil => exact .nil
  | cell g h => exact .cell g ((hb.cell (World.block_lt_of_cell? w _ h)).trans h)
theorem Zt.alloc {w : World} {p : Value} (h : Zt w p) (o : Obj) : Zt (w.alloc o) p := h.below ((Below.refl _ _).alloc (Nat.le_refl _) o)
set_option maxRecDepth 100000 in
theorem none_made (g : Nat) (w : World) (h : w.cell? ⟨g, 3, none⟩ = some (.bool true)) : Calls Tryd.prog 43 #[.pointer (some ⟨g, 0, none⟩)] w fun e w' => e = .returned (.bool false) ∧ w' = w := by
  go_enter Tryd.func43, Tryd.ntmps43
  go_wp2_with fail
  go_ret
  exact ⟨rfl, rfl⟩
theorem new_tb (w : World) (htab : Lib.TabBelow Tryd.prog w.heap.size w "internal/strconv.uint64pow10" .u64 Lib.pow10Tab) : TB w.heap.size (w.heap.size + 1) 47 [.bool true] (fun _ => True) [] (.slice none 0 0) w.heap.size (.map []) ((w.alloc (.map #[] 0)).alloc (.cells #[.slice none 0 0, .map (some w.heap.size), .int .i64 0, .bool true] 47)) where
  box := by have h := blk_new (w.alloc (.map #[] 0)) (.cells #[.slice none 0 0, .map (some w.heap.size), .int .i64 0, .bool true] 47); rw [World.size_alloc] at h; exact h
  row := Kd.R_nil _ _ _ _ _
  map := (World.ownsMap_made w _ _ _).alloc _
  pm := PM.nil
  hg := Nat.le_succ _
  hb := Nat.le_refl _
  tab := htab.on (((Below.refl _ _).alloc (Nat.le_refl _) _).alloc (by simp) _)
set_option maxRecDepth 100000 in
theorem new_calls (w : World) (htab : Lib.TabBelow Tryd.prog w.heap.size w "internal/strconv.uint64pow10" .u64 Lib.pow10Tab) :
    Calls Tryd.prog 18 #[] w fun e w' => e = .returned (.pointer (some ⟨w.heap.size + 1, 0, none⟩)) ∧ TB w.heap.size (w.heap.size + 1) 47 [.bool true] (fun _ => True) [] (.slice none 0 0) w.heap.size (.map []) w' ∧ Below w.heap.size w w' := by
  have HT := Aside0.mk htab
  clear htab
  have hmm := @run_makeMap Tryd.prog
  go_enter Tryd.func18, Tryd.ntmps18
  go_wp2_with fail
  go_ret
  refine ⟨rfl, ?_, ((Below.refl _ _).alloc (Nat.le_refl _) _).alloc (by simp) _⟩
  exact new_tb w HT.out
end Go.Proofs.YtfgglniigeagdaaDoor.Cn
namespace Go.Proofs.YtfgglniigeagdaaDoor.Cn
set_option linter.unusedSimpArgs false
set_option linter.unusedVariables false
open Go.RowKit Go.Maps Go.Proofs.YtfgglniigeagdaaDoorW.PrintWords Go.Proofs.YtfgglniigeagdaaDoorW.PrintLast Go.Proofs.YtfgglniigeagdaaDoorW.PrintMore Go.Proofs.YtfgglniigeagdaaDoor.QD
/-- The range's step: string keys, int elements. -/
theorem next_ranges_si {H : Type} {P : Program} (w : World) {ops : Array Oper} {rest : List Oper} {o : Oper} {a : Act} {Q : Exit → Act → World → Prop}
    (hg : o.guard = none) (it : Operand) (hop : o.op = Op.next it false) (k e : TypeId) (qe : IntKind) (K : Keyed P k) (hk : P.underlying k = some .string) (he : P.underlying e = some (.int qe))
    (b r n : Nat) (D : DataW H) (left : Lit → Bool) (cnt : Nat) (hit : a.eval it = .pointer (some ⟨r, 0, none⟩)) (h : w.ranges P k (plainElem P e) b r n D left cnt)
    (hDone : cnt = 0 → (∀ kl, left kl = false) → wpList P ops Q rest (a.put o.dst (.tuple #[.bool false])) w)
    (hMore : ∀ (s : ByteArray) (c : Int) (w' : World) (cnt' : Nat), keyOf P k (.string s) = some (.string s.data.toList) → (Lit.int qe c).wf = true → left (.string s.data.toList) = true → (∀ zd, D.atKey (.string s.data.toList) zd = .lit (.int qe c)) → w'.ranges P k (plainElem P e) b r n D (fun z => left z && !z.sameKey (.string s.data.toList)) cnt' → cnt' < cnt →
      w.grownBy w' (some r) → w'.heap.size = w.heap.size → (Instr.entry (.pointer (some ⟨r, 0, none⟩))).run P w' = .ok (.tuple #[.string s, .int qe c]) w' → wpList P ops Q rest (a.put o.dst (.tuple #[.bool true, .string s, .int qe c])) w') :
    wpList P ops Q (o :: rest) a w :=
  wpList_next_ranges w hg it hop k K (plainElem P e) Value.string (Value.int qe) (fun key kl hkey => Maps.keyOf_string_inv hk hkey) (fun v y hv => by obtain ⟨c, rfl, _⟩ := plainElem_int_inv he hv; exact ⟨c, rfl⟩)
    b r n D left cnt hit h hDone (fun x c kl y w' cnt' hkey hlk hv hat hrg hlt hgr hsz hen => by
      obtain ⟨c', ec, ey, hwc⟩ := plainElem_int_inv he hv
      cases ec
      subst ey
      have hs : kl = .string x.data.toList := by
        simp [keyOf, hk, mapKey] at hkey
        exact hkey.2.symm
      subst hs
      exact hMore x c w' cnt' hkey hwc hlk hat hrg hlt hgr hsz hen)
/-- Behind the region that copies: the row of groups is copied, there is a new map (empty) and a new block. -/
structure CG (w0 : World) (B : Nat) (l : List (Int × List S53)) (v bm q : Option Value) (W : World) : Prop where
  bel : Below w0.heap.size w0 W
  row : ∀ v', v = some v' → Kd.R kFam 93 W B (fun _ => True) v' l
  map : ∀ u, bm = some u → ∃ k, u = .map (some k) ∧ W.heap[k]? = some (.map #[] 0) ∧ w0.heap.size ≤ k
  box : ∀ u, q = some u → ∃ k, u = .pointer (some ⟨k, 0, none⟩) ∧ W.heap[k]? = some (.cells #[.slice none 0 0, .map none, .int .i64 0] 45 (0, 0)) ∧ w0.heap.size ≤ k
section
variable {w0 W W' : World} {B : Nat} {l : List (Int × List S53)} {v bm q : Option Value}
theorem CG.start (w0 : World) (B : Nat) (l : List (Int × List S53)) : CG w0 B l none none none w0 := ⟨Below.refl _ _, (fun _ h => by cases h), (fun _ h => by cases h), (fun _ h => by cases h)⟩
theorem CG.below (h : CG w0 B l v bm q W) (hb : Below W.heap.size W W') : CG w0 B l v bm q W' :=
  ⟨h.bel.trans (hb.mono h.bel.size), fun v' e => Kd.R_below (h.row v' e) hb, fun u e => by obtain ⟨k, e1, e2, e3⟩ := h.map u e; exact ⟨k, e1, (hb.block k (Array.getElem?_eq_some_iff.1 e2).1).trans e2, e3⟩, fun u e => by obtain ⟨k, e1, e2, e3⟩ := h.box u e; exact ⟨k, e1, blk_below e2 hb, e3⟩⟩
theorem CG.mm (h : CG w0 B l v none q W) : CG w0 B l v (some (.map (some W.heap.size))) q (W.alloc (.map #[] 0)) :=
  { h.below ((Below.refl _ _).alloc (Nat.le_refl _) _) with map := fun u e => ⟨W.heap.size, by injection e with e; exact e.symm, (MapKept.heap_alloc W _).1, h.bel.size⟩ }
theorem CG.al (h : CG w0 B l v bm none W) : CG w0 B l v bm (some (.pointer (some ⟨W.heap.size, 0, none⟩))) (W.alloc (.cells #[.slice none 0 0, .map none, .int .i64 0] 45)) :=
  { h.below ((Below.refl _ _).alloc (Nat.le_refl _) _) with box := fun u e => ⟨W.heap.size, by injection e with e; exact e.symm, blk_new W _, h.bel.size⟩ }
theorem CG.app (h : CG w0 B l none bm q W) {v' : Value} (hr : Kd.R kFam 93 W' B (fun _ => True) v' l) (hg : W.grownBy W' none) : CG w0 B l (some v') bm q W' :=
  { h.below (bel_of_grown hg (Nat.le_refl _) (by intro k e; cases e)) with row := fun u e => by injection e with e; subst e; exact hr }
theorem CG.cell (h : CG w0 B l v bm q W) {p : Addr} {u : Value} (hc : w0.cell? p = some u) : W.cell? p = some u := (h.bel.cell (World.block_lt_of_cell? w0 p hc)).trans hc
theorem CG.size (h : CG w0 B l v bm q W) : w0.heap.size ≤ W.heap.size := h.bel.size
end
theorem copy_step {ops : Array Oper} {o : Oper} {a : Act} {Q : Exit → Act → World → Prop} {Kc : Act → World → Prop} {w5 W : World} {B : Nat} {l : List (Int × List S53)} {bm q : Option Value} {A : Option Addr} {c : Nat} {s x : Operand} (G : CG w5 B l none bm q W) (HR : Kd.R kFam 93 w5 B (fun _ => True) (.slice A l.length c) l) (hB : B ≤ w5.heap.size)
    (hw : Region.wanted o (yielded ops a.tmps) = true) (ho : o.op = .call { callee := .builtin .append, args := #[s, x], argTypes := #[42, 42] }) (hs : a.eval s = .slice none 0 0) (hx : a.eval x = .slice A l.length c) (hl : l.length * 32 ≤ 140737488355328)
    (h : ∀ v1 w1, CG w5 B l (some v1) bm q w1 → Kc (a.put o.dst v1) w1) :
    if Region.wanted o (yielded ops a.tmps) = true then Oper.wp Tryd.prog o a W Kc Q else Kc (a.put o.dst undef) W := by
  obtain ⟨A', c', e1, _, hr⟩ := OwnRow.reads (Kd.R_below HR G.bel).2
  injection e1 with e1 e2 e3
  subst e1
  refine Kd.R_append_rows_step kFam (w0 := W) B hw s x 42 93 (.agg #[.int .i64 0, .slice none 0 0]) 32 ho Tryd.underlying42 infoFam rfl (by decide) (by decide) (.slice none 0 0) [] l A l.length c (fun _ => True) (fun _ => True) hs hx (Kd.R_nil _ _ _ _ _) hr (fun _ _ hm => kFam.M_mono (fun _ _ => trivial) hm) (fun k _ => ⟨trivial, by simp [Value.ownBlock]⟩) (fun _ _ => trivial) (Below.refl _ _) (Nat.le_trans hB G.size) (by simpa using hl) ?_
  intro v1 w1 hr1 _ hg _
  rw [List.nil_append] at hr1
  exact h v1 w1 (G.app hr1 hg)
/-- The loop over the map that is copied: it: the iterator. -/
structure CL (w : World) (B : Nat) (l : List (Int × List S53)) (v : Value) (mg : Int) (b bm q it : Nat) (W : World) : Prop where
  bel : Below w.heap.size w W
  row : Kd.R kFam 93 W B (fun k => k ≠ bm ∧ k ≠ it) v l
  box : W.heap[q]? = some (.cells #[v, .map (some bm), .int .i64 mg] 45 (0, 0))
  res : W.heap[w.heap.size]? = some (.cells #[.slice none 0 0, .map none, .int .i64 0] 45 (0, 0))
theorem CL.grown {w W W' : World} {B : Nat} {l : List (Int × List S53)} {v : Value} {mg : Int} {b bm q it : Nat} (h : CL w B l v mg b bm q it W) {r : Nat} (hg : W.grownBy W' (some r)) (hr : r = bm ∨ r = it) (hn : w.heap.size < r) (hq : q ≠ r) : CL w B l v mg b bm q it W' :=
  ⟨h.bel.trans (bel_of_grown hg h.bel.size (fun k e => by injection e with e; omega)), Kd.R_grown h.row hg (fun k hk e => by injection e with e; have h1 := hk.1; have h2 := hk.2; omega), blk_grown h.box hg (by intro e; injection e with e; exact hq e), blk_grown h.res hg (by intro e; injection e with e; omega)⟩
end Go.Proofs.YtfgglniigeagdaaDoor.Cn
namespace Go.Proofs.YtfgglniigeagdaaDoor.Cn
set_option linter.unusedSimpArgs false
set_option linter.unusedVariables false
open Go.RowKit Go.Maps Go.Proofs.YtfgglniigeagdaaDoorW.PrintWords Go.Proofs.YtfgglniigeagdaaDoorW.PrintLast Go.Proofs.YtfgglniigeagdaaDoorW.PrintMore Go.Proofs.YtfgglniigeagdaaDoor.QD
set_option maxRecDepth 100000 in
set_option maxHeartbeats 4000000 in
theorem copied_calls (B g b : Nat) (t : TypeId) (rest : List Value) (gs : List (List S53)) (v : Value) (D : DataW Unit) (w : World) (hT : TB B g t rest (fun _ => True) gs v b D w) (hB : B ≤ w.heap.size) (hg0 : gs.length ≤ 1099511627776) :
    Calls Tryd.prog 44 #[.pointer (some ⟨g, 0, none⟩)] w fun e w' => ∃ (v' : Value) (bm : Nat), e = .returned (.agg #[v', .map (some bm), .int .i64 (manyOf gs)]) ∧ Kd.R kFam 93 w' B (fun _ => True) v' (famsFrom 0 gs) ∧ w'.ownsMap Tryd.prog 9 (plainElem (H := Unit) Tryd.prog 3) bm gs.length D ∧ w.heap.size ≤ bm ∧ Below w.heap.size w w' := by
  have hmm := @run_makeMap Tryd.prog
  obtain ⟨Av, cv, hv, hcv, hCv⟩ := Kd.R_reads hT.row
  subst hv
  obtain ⟨ll, hll⟩ : ∃ ll : List (Int × List S53), ll = famsFrom 0 gs := ⟨_, rfl⟩
  have hlen : ll.length = gs.length := by rw [hll, famsFrom_length]
  rw [← hll] at hcv hCv
  obtain ⟨mg, hmg⟩ : ∃ mg : Int, mg = manyOf gs := ⟨_, rfl⟩
  obtain ⟨c0, c1, c2⟩ := cells3 hT.box
  rw [← hll] at c0
  rw [← hmg] at c2 ⊢
  rw [← hll]
  have HROW : Aside0 (Kd.R kFam 93 w B (fun _ => True) (.slice Av ll.length cv) ll) := ⟨by have h_ := hT.row; rw [← hll] at h_; exact h_⟩
  have HMAP := Aside0.mk hT.map
  have HB := Aside0.mk hB
  have HGL := Aside0.mk hg0
  have HLEN := Aside0.mk hlen
  have QQ := Aside0.mk (And.intro c0 c2)
  have Q1 := Aside0.mk c1
  have HLT : Aside0 (g < w.heap.size) := ⟨blk_lt hT.box⟩
  clear hT hB hg0 hcv hCv hll hmg hlen c0 c1 c2
  go_enter Tryd.func44, Tryd.ntmps44
  go_wp2_with fail
  have C0 : Aside0 (Below w.heap.size w (World.drew (w.alloc (.cells #[.slice none 0 0, .map none, .int .i64 0] 45)))) := ⟨((Below.refl w.heap.size w).alloc (Nat.le_refl _) (.cells #[.slice none 0 0, .map none, .int .i64 0] 45)).trans ⟨rfl, rfl, rfl, Nat.le_refl _, fun _ _ => rfl⟩⟩
  have R0 : Aside0 ((World.drew (w.alloc (.cells #[.slice none 0 0, .map none, .int .i64 0] 45))).heap[w.heap.size]? = some (.cells #[.slice none 0 0, .map none, .int .i64 0] 45 (0, 0))) := ⟨blk_new w _⟩
  refine start_ (n := 13) (S := fun w' => w'.cell? ⟨g, 0, none⟩ = some (.slice Av ll.length cv) ∧ w'.cell? ⟨g, 2, none⟩ = some (.int .i64 mg)) (ds := [12]) #[false, false, false, false, false, false, false, false, false, false, false, false, false] (by kernel_rfl) rfl rfl ⟨(C0.out.cell HLT.out).trans QQ.out.1, (C0.out.cell HLT.out).trans QQ.out.2⟩ (fun hHeld => ?_)
  generalize World.drew _ = w5 at C0 R0 hHeld ⊢
  have QA : Aside0 (w5.cell? ⟨g, 0, none⟩ = some (.slice Av ll.length cv) ∧ w5.cell? ⟨g, 2, none⟩ = some (.int .i64 mg)) := ⟨(C0.out.cell HLT.out).trans QQ.out.1, (C0.out.cell HLT.out).trans QQ.out.2⟩
  have HROW5 := Aside0.mk (Kd.R_below HROW.out C0.out)
  have HB5 : Aside0 (B ≤ w5.heap.size) := ⟨Nat.le_trans HB.out C0.out.size⟩
  have G0 := Aside0.mk (CG.start w5 B ll)
  refine pure_ (i := 0) (N := some 6) (v := ?_) (a' := ?_) #[true, false, false, false, false, false, false, false, false, false, false, false, false] rfl rfl (by kernel_rfl) (fun _ _ _ h => h) (Or.inl ⟨by rfl, ?_⟩) ?_ ?_
  rotate_left
  · intro w'
    go_simp
    with_reducible rfl
  rotate_left
  · simp only [Act.put, List.setIfInBounds_toArray, List.set_cons_zero, List.set_cons_succ, i64_w, i32_w]
    rfl
  refine pure_ (i := 1) (N := some 7) (v := ?_) (a' := ?_) #[true, true, false, false, false, false, false, false, false, false, false, false, false] rfl rfl (by kernel_rfl) (fun _ _ _ h => h) (Or.inl ⟨by rfl, ?_⟩) ?_ ?_
  rotate_left
  · intro w'
    go_simp
    with_reducible rfl
  rotate_left
  · simp only [Act.put, List.setIfInBounds_toArray, List.set_cons_zero, List.set_cons_succ, i64_w, i32_w]
    rfl
  refine pure_ (i := 2) (N := some 8) (v := ?_) (a' := ?_) #[true, true, true, false, false, false, false, false, false, false, false, false, false] rfl rfl (by kernel_rfl) (fun _ _ _ h => h) (Or.inl ⟨by rfl, ?_⟩) ?_ ?_
  rotate_left
  · intro w'
    go_simp
    with_reducible rfl
  rotate_left
  · simp only [Act.put, List.setIfInBounds_toArray, List.set_cons_zero, List.set_cons_succ, i64_w, i32_w]
    rfl
  refine pure_ (i := 6) (N := some 12) (v := ?_) (a' := ?_) #[true, true, true, false, false, false, true, false, false, false, false, false, false] rfl rfl (by kernel_rfl) (fun _ _ _ h => h) (Or.inl ⟨by rfl, ?_⟩) ?_ ?_
  rotate_left
  · intro w'
    go_simp
    with_reducible rfl
  rotate_left
  · simp only [Act.put, List.setIfInBounds_toArray, List.set_cons_zero, List.set_cons_succ, i64_w, i32_w]
    rfl
  refine pure_ (i := 7) (N := some 13) (v := ?_) (a' := ?_) #[true, true, true, false, false, false, true, true, false, false, false, false, false] rfl rfl (by kernel_rfl) (fun _ _ _ h => h) (Or.inl ⟨by rfl, ?_⟩) ?_ ?_
  rotate_left
  · intro w'
    go_simp
    with_reducible rfl
  rotate_left
  · simp only [Act.put, List.setIfInBounds_toArray, List.set_cons_zero, List.set_cons_succ, i64_w, i32_w]
    rfl
  refine pure_ (i := 8) (N := some 14) (v := ?_) (a' := ?_) #[true, true, true, false, false, false, true, true, true, false, false, false, false] rfl rfl (by kernel_rfl) (fun _ _ _ h => h) (Or.inl ⟨by rfl, ?_⟩) ?_ ?_
  rotate_left
  · intro w'
    go_simp
    with_reducible rfl
  rotate_left
  · simp only [Act.put, List.setIfInBounds_toArray, List.set_cons_zero, List.set_cons_succ, i64_w, i32_w]
    rfl
  refine take_ (i := 3) (N := some 9) (v := ?_) (a' := ?_) #[true, true, true, true, false, false, true, true, true, false, false, false, false] rfl rfl (by kernel_rfl) (fun _ _ _ h => h) (Or.inl ⟨by rfl, ?_⟩) hHeld ?_ ?_
  rotate_left
  · rintro w' ⟨s0, s1⟩
    go_simp
    with_reducible rfl
  rotate_left
  · simp only [Act.put, List.setIfInBounds_toArray, List.set_cons_zero, List.set_cons_succ, i64_w, i32_w]
    rfl
  refine take_ (i := 9) (N := some 15) (v := ?_) (a' := ?_) #[true, true, true, true, false, false, true, true, true, true, false, false, false] rfl rfl (by kernel_rfl) (fun _ _ _ h => h) (Or.inl ⟨by rfl, ?_⟩) hHeld ?_ ?_
  rotate_left
  · rintro w' ⟨s0, s1⟩
    go_simp
    with_reducible rfl
  rotate_left
  · simp only [Act.put, List.setIfInBounds_toArray, List.set_cons_zero, List.set_cons_succ, i64_w, i32_w]
    rfl
  refine join_ (σ := Value × Value × Value) 1 #[true, true, true, true, true, true, true, true, true, true, true, true, false] (fun s_ => [(10, s_.1), (11, s_.2.1), (3, s_.2.2), (16, .agg #[s_.1, s_.2.1, .int .i64 mg])]) (fun s_ w' => CG w5 B ll (some s_.1) (some s_.2.1) (some s_.2.2) w') ?_ ?_
  rotate_left
  · intro hCont
    refine three_ (i := 4) (j := 5) (k := 11) (Ni := some 10) (Nj := some 11) (Nk := some 3) #[true, true, true, true, true, false, true, true, true, true, false, false, false] #[true, true, true, true, false, true, true, true, true, true, false, false, false] #[true, true, true, true, false, false, true, true, true, true, false, true, false] rfl rfl rfl rfl rfl rfl (by kernel_rfl) (by decide) (by decide) (by decide) (fun K hK => ?_) (fun K hK => ?_) (fun K hK => ?_)
    · skip
      refine copy_step G0.out HROW5.out HB5.out (by rfl) (s := .const (.slice none 0 0)) (x := .tmp 9) rfl rfl rfl (by rw [HLEN.out]; have := HGL.out; omega) ?_
      intro v5 w8 hG8
      obtain ⟨A5, c5, e5⟩ := Kd.R_slice (hG8.row _ rfl)
      subst e5
      have G4 := Aside0.mk hG8
      clear hG8
      refine hK.out _ _ ⟨G4.out.cell QA.out.1, G4.out.cell QA.out.2⟩ (fun hHeld => ?_)
      clear hK K
      refine norm_ (a' := ?_) ?_ ?_
      rotate_left
      · show Act.put _ (some 10) _ = _
        simp only [Act.put, List.setIfInBounds_toArray, List.set_cons_zero, List.set_cons_succ, i64_w, i32_w]
        rfl
      refine two_ (i := 5) (j := 11) (Ni := some 11) (Nj := some 3) #[true, true, true, true, true, true, true, true, true, true, false, false, false] #[true, true, true, true, true, false, true, true, true, true, false, true, false] rfl rfl rfl rfl (by kernel_rfl) (by decide) (by decide) (fun K hK => ?_) (fun K hK => ?_)
      · skip
        refine value_ (w1 := ?_) (v := ?_) (by rfl) rfl ?_ ?_
        rotate_left 2
        · go_simp
          constructor
          · rfl
          · rfl
        have G4_5 := Aside0.mk G4.out.mm
        try simp only [World.size_alloc] at G4_5
        refine hK.out _ _ ⟨G4_5.out.cell QA.out.1, G4_5.out.cell QA.out.2⟩ (fun hHeld => ?_)
        clear hK K
        refine norm_ (a' := ?_) ?_ ?_
        rotate_left
        · show Act.put _ (some 11) _ = _
          simp only [Act.put, List.setIfInBounds_toArray, List.set_cons_zero, List.set_cons_succ, i64_w, i32_w]
          rfl
        refine pure_ (i := 10) (N := some 16) (v := ?_) (a' := ?_) #[true, true, true, true, true, true, true, true, true, true, true, false, false] rfl rfl (by kernel_rfl) (fun _ _ _ h => h) (Or.inl ⟨by rfl, ?_⟩) ?_ ?_
        rotate_left
        · intro w'
          go_simp
          with_reducible rfl
        rotate_left
        · simp only [Act.put, List.setIfInBounds_toArray, List.set_cons_zero, List.set_cons_succ, i64_w, i32_w]
          rfl
        refine one_ (i := 11) (N := some 3) #[true, true, true, true, true, true, true, true, true, true, true, true, false] rfl rfl (by kernel_rfl) (by decide) (fun K hK => ?_)
        refine value_ (w1 := ?_) (v := ?_) (by rfl) rfl ?_ ?_
        rotate_left 2
        · go_simp
          constructor
          · rfl
          · rfl
        have G4_5_11 := Aside0.mk G4_5.out.al
        try simp only [World.size_alloc] at G4_5_11
        refine hK.out _ _ ⟨G4_5_11.out.cell QA.out.1, G4_5_11.out.cell QA.out.2⟩ (fun hHeld => ?_)
        clear hK K
        refine norm_ (a' := ?_) ?_ ?_
        rotate_left
        · show Act.put _ (some 3) _ = _
          simp only [Act.put, List.setIfInBounds_toArray, List.set_cons_zero, List.set_cons_succ, i64_w, i32_w]
          rfl
        exact norm_ (by simp only [putAll, Act.put, List.setIfInBounds_toArray, List.set_cons_zero, List.set_cons_succ]) (hCont (_, _, _) _ G4_5_11.out)
      · skip
        refine value_ (w1 := ?_) (v := ?_) (by rfl) rfl ?_ ?_
        rotate_left 2
        · go_simp
          constructor
          · rfl
          · rfl
        have G4_11 := Aside0.mk G4.out.al
        try simp only [World.size_alloc] at G4_11
        refine hK.out _ _ ⟨G4_11.out.cell QA.out.1, G4_11.out.cell QA.out.2⟩ (fun hHeld => ?_)
        clear hK K
        refine norm_ (a' := ?_) ?_ ?_
        rotate_left
        · show Act.put _ (some 3) _ = _
          simp only [Act.put, List.setIfInBounds_toArray, List.set_cons_zero, List.set_cons_succ, i64_w, i32_w]
          rfl
        refine one_ (i := 5) (N := some 11) #[true, true, true, true, true, true, true, true, true, true, false, true, false] rfl rfl (by kernel_rfl) (by decide) (fun K hK => ?_)
        refine value_ (w1 := ?_) (v := ?_) (by rfl) rfl ?_ ?_
        rotate_left 2
        · go_simp
          constructor
          · rfl
          · rfl
        have G4_11_5 := Aside0.mk G4_11.out.mm
        try simp only [World.size_alloc] at G4_11_5
        refine hK.out _ _ ⟨G4_11_5.out.cell QA.out.1, G4_11_5.out.cell QA.out.2⟩ (fun hHeld => ?_)
        clear hK K
        refine norm_ (a' := ?_) ?_ ?_
        rotate_left
        · show Act.put _ (some 11) _ = _
          simp only [Act.put, List.setIfInBounds_toArray, List.set_cons_zero, List.set_cons_succ, i64_w, i32_w]
          rfl
        refine pure_ (i := 10) (N := some 16) (v := ?_) (a' := ?_) #[true, true, true, true, true, true, true, true, true, true, true, true, false] rfl rfl (by kernel_rfl) (fun _ _ _ h => h) (Or.inl ⟨by rfl, ?_⟩) ?_ ?_
        rotate_left
        · intro w'
          go_simp
          with_reducible rfl
        rotate_left
        · simp only [Act.put, List.setIfInBounds_toArray, List.set_cons_zero, List.set_cons_succ, i64_w, i32_w]
          rfl
        exact norm_ (by simp only [putAll, Act.put, List.setIfInBounds_toArray, List.set_cons_zero, List.set_cons_succ]) (hCont (_, _, _) _ G4_11_5.out)
    · skip
      refine value_ (w1 := ?_) (v := ?_) (by rfl) rfl ?_ ?_
      rotate_left 2
      · go_simp
        constructor
        · rfl
        · rfl
      have G5 := Aside0.mk G0.out.mm
      try simp only [World.size_alloc] at G5
      refine hK.out _ _ ⟨G5.out.cell QA.out.1, G5.out.cell QA.out.2⟩ (fun hHeld => ?_)
      clear hK K
      refine norm_ (a' := ?_) ?_ ?_
      rotate_left
      · show Act.put _ (some 11) _ = _
        simp only [Act.put, List.setIfInBounds_toArray, List.set_cons_zero, List.set_cons_succ, i64_w, i32_w]
        rfl
      refine two_ (i := 4) (j := 11) (Ni := some 10) (Nj := some 3) #[true, true, true, true, true, true, true, true, true, true, false, false, false] #[true, true, true, true, false, true, true, true, true, true, false, true, false] rfl rfl rfl rfl (by kernel_rfl) (by decide) (by decide) (fun K hK => ?_) (fun K hK => ?_)
      · skip
        refine copy_step G5.out HROW5.out HB5.out (by rfl) (s := .const (.slice none 0 0)) (x := .tmp 9) rfl rfl rfl (by rw [HLEN.out]; have := HGL.out; omega) ?_
        intro v5 w8 hG8
        obtain ⟨A5, c5, e5⟩ := Kd.R_slice (hG8.row _ rfl)
        subst e5
        have G5_4 := Aside0.mk hG8
        clear hG8
        refine hK.out _ _ ⟨G5_4.out.cell QA.out.1, G5_4.out.cell QA.out.2⟩ (fun hHeld => ?_)
        clear hK K
        refine norm_ (a' := ?_) ?_ ?_
        rotate_left
        · show Act.put _ (some 10) _ = _
          simp only [Act.put, List.setIfInBounds_toArray, List.set_cons_zero, List.set_cons_succ, i64_w, i32_w]
          rfl
        refine pure_ (i := 10) (N := some 16) (v := ?_) (a' := ?_) #[true, true, true, true, true, true, true, true, true, true, true, false, false] rfl rfl (by kernel_rfl) (fun _ _ _ h => h) (Or.inl ⟨by rfl, ?_⟩) ?_ ?_
        rotate_left
        · intro w'
          go_simp
          with_reducible rfl
        rotate_left
        · simp only [Act.put, List.setIfInBounds_toArray, List.set_cons_zero, List.set_cons_succ, i64_w, i32_w]
          rfl
        refine one_ (i := 11) (N := some 3) #[true, true, true, true, true, true, true, true, true, true, true, true, false] rfl rfl (by kernel_rfl) (by decide) (fun K hK => ?_)
        refine value_ (w1 := ?_) (v := ?_) (by rfl) rfl ?_ ?_
        rotate_left 2
        · go_simp
          constructor
          · rfl
          · rfl
        have G5_4_11 := Aside0.mk G5_4.out.al
        try simp only [World.size_alloc] at G5_4_11
        refine hK.out _ _ ⟨G5_4_11.out.cell QA.out.1, G5_4_11.out.cell QA.out.2⟩ (fun hHeld => ?_)
        clear hK K
        refine norm_ (a' := ?_) ?_ ?_
        rotate_left
        · show Act.put _ (some 3) _ = _
          simp only [Act.put, List.setIfInBounds_toArray, List.set_cons_zero, List.set_cons_succ, i64_w, i32_w]
          rfl
        exact norm_ (by simp only [putAll, Act.put, List.setIfInBounds_toArray, List.set_cons_zero, List.set_cons_succ]) (hCont (_, _, _) _ G5_4_11.out)
      · skip
        refine value_ (w1 := ?_) (v := ?_) (by rfl) rfl ?_ ?_
        rotate_left 2
        · go_simp
          constructor
          · rfl
          · rfl
        have G5_11 := Aside0.mk G5.out.al
        try simp only [World.size_alloc] at G5_11
        refine hK.out _ _ ⟨G5_11.out.cell QA.out.1, G5_11.out.cell QA.out.2⟩ (fun hHeld => ?_)
        clear hK K
        refine norm_ (a' := ?_) ?_ ?_
        rotate_left
        · show Act.put _ (some 3) _ = _
          simp only [Act.put, List.setIfInBounds_toArray, List.set_cons_zero, List.set_cons_succ, i64_w, i32_w]
          rfl
        refine one_ (i := 4) (N := some 10) #[true, true, true, true, true, true, true, true, true, true, false, true, false] rfl rfl (by kernel_rfl) (by decide) (fun K hK => ?_)
        refine copy_step G5_11.out HROW5.out HB5.out (by rfl) (s := .const (.slice none 0 0)) (x := .tmp 9) rfl rfl rfl (by rw [HLEN.out]; have := HGL.out; omega) ?_
        intro v5 w8 hG8
        obtain ⟨A5, c5, e5⟩ := Kd.R_slice (hG8.row _ rfl)
        subst e5
        have G5_11_4 := Aside0.mk hG8
        clear hG8
        refine hK.out _ _ ⟨G5_11_4.out.cell QA.out.1, G5_11_4.out.cell QA.out.2⟩ (fun hHeld => ?_)
        clear hK K
        refine norm_ (a' := ?_) ?_ ?_
        rotate_left
        · show Act.put _ (some 10) _ = _
          simp only [Act.put, List.setIfInBounds_toArray, List.set_cons_zero, List.set_cons_succ, i64_w, i32_w]
          rfl
        refine pure_ (i := 10) (N := some 16) (v := ?_) (a' := ?_) #[true, true, true, true, true, true, true, true, true, true, true, true, false] rfl rfl (by kernel_rfl) (fun _ _ _ h => h) (Or.inl ⟨by rfl, ?_⟩) ?_ ?_
        rotate_left
        · intro w'
          go_simp
          with_reducible rfl
        rotate_left
        · simp only [Act.put, List.setIfInBounds_toArray, List.set_cons_zero, List.set_cons_succ, i64_w, i32_w]
          rfl
        exact norm_ (by simp only [putAll, Act.put, List.setIfInBounds_toArray, List.set_cons_zero, List.set_cons_succ]) (hCont (_, _, _) _ G5_11_4.out)
    · skip
      refine value_ (w1 := ?_) (v := ?_) (by rfl) rfl ?_ ?_
      rotate_left 2
      · go_simp
        constructor
        · rfl
        · rfl
      have G11 := Aside0.mk G0.out.al
      try simp only [World.size_alloc] at G11
      refine hK.out _ _ ⟨G11.out.cell QA.out.1, G11.out.cell QA.out.2⟩ (fun hHeld => ?_)
      clear hK K
      refine norm_ (a' := ?_) ?_ ?_
      rotate_left
      · show Act.put _ (some 3) _ = _
        simp only [Act.put, List.setIfInBounds_toArray, List.set_cons_zero, List.set_cons_succ, i64_w, i32_w]
        rfl
      refine two_ (i := 4) (j := 5) (Ni := some 10) (Nj := some 11) #[true, true, true, true, true, false, true, true, true, true, false, true, false] #[true, true, true, true, false, true, true, true, true, true, false, true, false] rfl rfl rfl rfl (by kernel_rfl) (by decide) (by decide) (fun K hK => ?_) (fun K hK => ?_)
      · skip
        refine copy_step G11.out HROW5.out HB5.out (by rfl) (s := .const (.slice none 0 0)) (x := .tmp 9) rfl rfl rfl (by rw [HLEN.out]; have := HGL.out; omega) ?_
        intro v5 w8 hG8
        obtain ⟨A5, c5, e5⟩ := Kd.R_slice (hG8.row _ rfl)
        subst e5
        have G11_4 := Aside0.mk hG8
        clear hG8
        refine hK.out _ _ ⟨G11_4.out.cell QA.out.1, G11_4.out.cell QA.out.2⟩ (fun hHeld => ?_)
        clear hK K
        refine norm_ (a' := ?_) ?_ ?_
        rotate_left
        · show Act.put _ (some 10) _ = _
          simp only [Act.put, List.setIfInBounds_toArray, List.set_cons_zero, List.set_cons_succ, i64_w, i32_w]
          rfl
        refine one_ (i := 5) (N := some 11) #[true, true, true, true, true, true, true, true, true, true, false, true, false] rfl rfl (by kernel_rfl) (by decide) (fun K hK => ?_)
        refine value_ (w1 := ?_) (v := ?_) (by rfl) rfl ?_ ?_
        rotate_left 2
        · go_simp
          constructor
          · rfl
          · rfl
        have G11_4_5 := Aside0.mk G11_4.out.mm
        try simp only [World.size_alloc] at G11_4_5
        refine hK.out _ _ ⟨G11_4_5.out.cell QA.out.1, G11_4_5.out.cell QA.out.2⟩ (fun hHeld => ?_)
        clear hK K
        refine norm_ (a' := ?_) ?_ ?_
        rotate_left
        · show Act.put _ (some 11) _ = _
          simp only [Act.put, List.setIfInBounds_toArray, List.set_cons_zero, List.set_cons_succ, i64_w, i32_w]
          rfl
        refine pure_ (i := 10) (N := some 16) (v := ?_) (a' := ?_) #[true, true, true, true, true, true, true, true, true, true, true, true, false] rfl rfl (by kernel_rfl) (fun _ _ _ h => h) (Or.inl ⟨by rfl, ?_⟩) ?_ ?_
        rotate_left
        · intro w'
          go_simp
          with_reducible rfl
        rotate_left
        · simp only [Act.put, List.setIfInBounds_toArray, List.set_cons_zero, List.set_cons_succ, i64_w, i32_w]
          rfl
        exact norm_ (by simp only [putAll, Act.put, List.setIfInBounds_toArray, List.set_cons_zero, List.set_cons_succ]) (hCont (_, _, _) _ G11_4_5.out)
      · skip
        refine value_ (w1 := ?_) (v := ?_) (by rfl) rfl ?_ ?_
        rotate_left 2
        · go_simp
          constructor
          · rfl
          · rfl
        have G11_5 := Aside0.mk G11.out.mm
        try simp only [World.size_alloc] at G11_5
        refine hK.out _ _ ⟨G11_5.out.cell QA.out.1, G11_5.out.cell QA.out.2⟩ (fun hHeld => ?_)
        clear hK K
        refine norm_ (a' := ?_) ?_ ?_
        rotate_left
        · show Act.put _ (some 11) _ = _
          simp only [Act.put, List.setIfInBounds_toArray, List.set_cons_zero, List.set_cons_succ, i64_w, i32_w]
          rfl
        refine one_ (i := 4) (N := some 10) #[true, true, true, true, true, true, true, true, true, true, false, true, false] rfl rfl (by kernel_rfl) (by decide) (fun K hK => ?_)
        refine copy_step G11_5.out HROW5.out HB5.out (by rfl) (s := .const (.slice none 0 0)) (x := .tmp 9) rfl rfl rfl (by rw [HLEN.out]; have := HGL.out; omega) ?_
        intro v5 w8 hG8
        obtain ⟨A5, c5, e5⟩ := Kd.R_slice (hG8.row _ rfl)
        subst e5
        have G11_5_4 := Aside0.mk hG8
        clear hG8
        refine hK.out _ _ ⟨G11_5_4.out.cell QA.out.1, G11_5_4.out.cell QA.out.2⟩ (fun hHeld => ?_)
        clear hK K
        refine norm_ (a' := ?_) ?_ ?_
        rotate_left
        · show Act.put _ (some 10) _ = _
          simp only [Act.put, List.setIfInBounds_toArray, List.set_cons_zero, List.set_cons_succ, i64_w, i32_w]
          rfl
        refine pure_ (i := 10) (N := some 16) (v := ?_) (a' := ?_) #[true, true, true, true, true, true, true, true, true, true, true, true, false] rfl rfl (by kernel_rfl) (fun _ _ _ h => h) (Or.inl ⟨by rfl, ?_⟩) ?_ ?_
        rotate_left
        · intro w'
          go_simp
          with_reducible rfl
        rotate_left
        · simp only [Act.put, List.setIfInBounds_toArray, List.set_cons_zero, List.set_cons_succ, i64_w, i32_w]
          rfl
        exact norm_ (by simp only [putAll, Act.put, List.setIfInBounds_toArray, List.set_cons_zero, List.set_cons_succ]) (hCont (_, _, _) _ G11_5_4.out)
  rintro ⟨v6, u6, p6⟩ w6 hG6
  have hHeld : w6.cell? ⟨g, 0, none⟩ = some (.slice Av ll.length cv) ∧ w6.cell? ⟨g, 2, none⟩ = some (.int .i64 mg) := ⟨hG6.cell QA.out.1, hG6.cell QA.out.2⟩
  obtain ⟨bm, eu, hbm, hbm0⟩ := hG6.map _ rfl
  obtain ⟨pq, ep, hpq, hpq0⟩ := hG6.box _ rfl
  have hr6 := hG6.row _ rfl
  obtain ⟨A6, n6, e6⟩ := Kd.R_slice hr6
  dsimp only at eu ep e6 hr6
  subst eu ep e6
  have G6 := Aside0.mk hG6.bel
  have HBM := Aside0.mk hbm
  have HPQ := Aside0.mk hpq
  have HR6 := Aside0.mk hr6
  have HBM0 := Aside0.mk hbm0
  have HPQ0 := Aside0.mk hpq0
  clear hG6 hbm hpq hr6 hbm0 hpq0
  refine norm_ (a' := ?_) ?_ ?_
  rotate_left
  · simp only [putAll, Act.put, List.setIfInBounds_toArray, List.set_cons_zero, List.set_cons_succ]
    rfl
  refine last_ (i := 12) (N := none) #[true, true, true, true, true, true, true, true, true, true, true, true, true] rfl rfl (by kernel_rfl) (by decide) (fun K hK => ?_)
  have hs0_ : w6.cell? ⟨pq, 0, none⟩ = some (.slice none 0 0) := (blk_cell HPQ.out 0).trans rfl
  have hs1_ : w6.cell? ⟨pq, 1, none⟩ = some (.map none) := (blk_cell HPQ.out 1).trans rfl
  have hs2_ : w6.cell? ⟨pq, 2, none⟩ = some (.int .i64 0) := (blk_cell HPQ.out 2).trans rfl
  have hf0_ : w6.frozen? ⟨pq, 0, none⟩ = false := blk_frozen HPQ.out 0
  have hf1_ : w6.frozen? ⟨pq, 1, none⟩ = false := blk_frozen HPQ.out 1
  have hf2_ : w6.frozen? ⟨pq, 2, none⟩ = false := blk_frozen HPQ.out 2
  refine skip_ (w1 := ?_) (by rfl) rfl ?_ ?_
  rotate_left
  · go_simp
    rfl
  refine hK.out _ _ ?_
  clear hK K
  refine done_ (by kernel_rfl) ?_
  
  have hsz5 : w.heap.size < w5.heap.size := blk_lt R0.out
  have bx7 := blk_set (blk_set (blk_set HPQ.out 0 (.slice A6 ll.length n6)) 1 (.map (some bm))) 2 (.int .i64 mg)
  have hne : bm ≠ pq := by rintro rfl; have h_ := HBM.out; rw [HPQ.out] at h_; cases h_
  have hpq0 := HPQ0.out
  have hbm0 := HBM0.out
  have row7 := Kd.R_set (Kd.R_set (Kd.R_set HR6.out HPQ.out (by decide) 0 (.slice A6 ll.length n6)) (blk_set HPQ.out 0 (.slice A6 ll.length n6)) (by decide) 1 (.map (some bm))) (blk_set (blk_set HPQ.out 0 (.slice A6 ll.length n6)) 1 (.map (some bm))) (by decide) 2 (.int .i64 mg)
  have bel7 : Below w5.heap.size w5 (((w6.setCell ⟨pq, 0, none⟩ (.slice A6 ll.length n6)).setCell ⟨pq, 1, none⟩ (.map (some bm))).setCell ⟨pq, 2, none⟩ (.int .i64 mg)) := ((G6.out.setCell (B := w5.heap.size) (p := ⟨pq, 0, none⟩) hpq0 _).setCell (p := ⟨pq, 1, none⟩) hpq0 _).setCell (p := ⟨pq, 2, none⟩) hpq0 _
  have oth7 : ∀ k, k ≠ pq → (((w6.setCell ⟨pq, 0, none⟩ (.slice A6 ll.length n6)).setCell ⟨pq, 1, none⟩ (.map (some bm))).setCell ⟨pq, 2, none⟩ (.int .i64 mg)).heap[k]? = w6.heap[k]? := fun k hk => ((Below.heap_setCell _ ⟨pq, 2, none⟩ _ k hk).trans (Below.heap_setCell _ ⟨pq, 1, none⟩ _ k hk)).trans (Below.heap_setCell w6 ⟨pq, 0, none⟩ _ k hk)
  have map7 := (oth7 bm hne).trans HBM.out
  have res7 := (oth7 w.heap.size (by omega)).trans (blk_below R0.out G6.out)
  have bx7' : (((w6.setCell ⟨pq, 0, none⟩ (.slice A6 ll.length n6)).setCell ⟨pq, 1, none⟩ (.map (some bm))).setCell ⟨pq, 2, none⟩ (.int .i64 mg)).heap[pq]? = some (.cells #[(.slice A6 ll.length n6), .map (some bm), .int .i64 mg] 45 (0, 0)) := by simpa using bx7
  clear bx7 oth7
  generalize (((w6.setCell ⟨pq, 0, none⟩ (.slice A6 ll.length n6)).setCell ⟨pq, 1, none⟩ (.map (some bm))).setCell ⟨pq, 2, none⟩ (.int .i64 mg)) = w7 at bel7 row7 map7 res7 bx7' ⊢
  have belw := C0.out.trans (bel7.mono (Nat.le_of_lt hsz5))
  have HOWN := Aside0.mk (HMAP.out.kept (grown_of_below belw none) (by simp))
  have q1 : w7.cell? ⟨g, 1, none⟩ = some (.map (some b)) := (belw.cell HLT.out).trans Q1.out
  have HNE := Aside0.mk hne
  have HS5 := Aside0.mk hsz5
  have HB7 := Aside0.mk belw
  have HBEL7 := Aside0.mk bel7
  have HROW7 := Aside0.mk row7
  have HM7 := Aside0.mk map7
  have HRES7 := Aside0.mk res7
  have HBX7 := Aside0.mk bx7'
  have HLB : Aside0 (b < w.heap.size) := ⟨HMAP.out.lt⟩
  clear hne hsz5 belw bel7 row7 map7 res7 bx7' hpq0 hbm0
  go_wp2_with (at_range; refine wpList_range_own _ rfl _ 43 rfl 9 3 placesLaw Tryd.underlying43 _ b gs.length _ rfl HOWN.out ?_; intro w8 hrg0 hg0 hs0)
  go_frame
  have CL0 : CL w B ll (.slice A6 ll.length n6) mg b bm pq w7.heap.size w8 := ⟨HB7.out.trans (bel_of_grown hg0 HB7.out.size (by intro k e; cases e)), Kd.R_mono (Kd.R_grown (Kd.R_bound HROW7.out) hg0 (by intro k _ e; cases e)) (fun k hk => ⟨fun e => by obtain ⟨_, _, _, q_, _, cells_, hc_⟩ := hk; rw [e, HM7.out] at hc_; simp at hc_, fun e => by have := hk.2.2.1; omega⟩), blk_grown HBX7.out hg0 (by simp), blk_grown HRES7.out hg0 (by simp)⟩
  have OM0 : w8.ownsMap Tryd.prog 9 (plainElem (H := Unit) Tryd.prog 3) bm 0 (.map []) := World.ownsMap.kept (w := w7) ⟨#[], 0, HM7.out, ⟨by simp, MapKept.stamped_empty 0, by simp⟩, Nat.le_refl _, rfl⟩ hg0 (by simp)
  have hbq : bm < w7.heap.size ∧ pq < w7.heap.size := ⟨(Array.getElem?_eq_some_iff.1 HM7.out).1, blk_lt HBX7.out⟩
  have HBQ := Aside0.mk hbq
  clear hbq
  obtain ⟨it, hit⟩ : ∃ it, it = w7.heap.size := ⟨_, rfl⟩
  rw [← hit] at CL0 hrg0 HBQ ⊢
  have HIT := Aside0.mk hit
  clear hg0 hs0 q1 hit
  go_loopw [4, 5] (fun _ _ W => ∃ (left : Lit → Bool) (cnt : Nat) (Dout : DataW Unit), W.ranges Tryd.prog 9 (plainElem (H := Unit) Tryd.prog 3) b it gs.length D left cnt ∧ cnt ≤ Maps.size D ∧ W.ownsMap Tryd.prog 9 (plainElem (H := Unit) Tryd.prog 3) bm (Maps.size D - cnt) Dout ∧ Agree Dout D left ∧ CL w B ll (.slice A6 ll.length n6) mg b bm pq it W) (fun _ _ W => W.rangeLeft b it)
  case atStart => exact ⟨_, _, .map [], hrg0, Nat.le_refl _, OM0.mono (Nat.zero_le _), agree_start D, CL0⟩
  case round =>
    clear CL0 OM0 hrg0
    obtain ⟨left, cnt, Dout, hrg, hcs, hout, hA, hcl⟩ := hrel
    have HCL := Aside0.mk hcl
    have HRG := Aside0.mk hrg
    have HOUT := Aside0.mk hout
    have HA := Aside0.mk hA
    have HCS := Aside0.mk hcs
    clear hcl hrg hout hA hcs
    go_wp2_with (at_next; refine next_ranges_si _ rfl _ rfl 9 3 .i64 placesLaw Tryd.underlying9 Tryd.underlying3 b it gs.length _ _ _ rfl HRG.out ?_ ?_)
    · intro hc0 hl0
      have p0 : wr.cell? ⟨pq, 0, none⟩ = some (.slice A6 ll.length n6) := (blk_cell HCL.out.box 0).trans rfl
      have p1 : wr.cell? ⟨pq, 1, none⟩ = some (.map (some bm)) := (blk_cell HCL.out.box 1).trans rfl
      have p2 : wr.cell? ⟨pq, 2, none⟩ = some (.int .i64 mg) := (blk_cell HCL.out.box 2).trans rfl
      have r0 : wr.cell? ⟨w.heap.size, 0, none⟩ = some (.slice none 0 0) := (blk_cell HCL.out.res 0).trans rfl
      have f0 : wr.frozen? ⟨w.heap.size, 0, none⟩ = false := blk_frozen HCL.out.res 0
      have r1 : wr.cell? ⟨w.heap.size, 1, none⟩ = some (.map none) := (blk_cell HCL.out.res 1).trans rfl
      have f1 : wr.frozen? ⟨w.heap.size, 1, none⟩ = false := blk_frozen HCL.out.res 1
      have r2 : wr.cell? ⟨w.heap.size, 2, none⟩ = some (.int .i64 0) := (blk_cell HCL.out.res 2).trans rfl
      have f2 : wr.frozen? ⟨w.heap.size, 2, none⟩ = false := blk_frozen HCL.out.res 2
      go_wp2_with fail
      subst hc0
      have e_ := agree_end HA.out hl0 (HOUT.out.canon placesLaw) (HOWN.out.canon placesLaw)
      subst e_
      have bx9 := blk_set (blk_set (blk_set HCL.out.res 0 (.slice A6 ll.length n6)) 1 (.map (some bm))) 2 (.int .i64 mg)
      refine bodyPost_ret (results_cell_row rfl _ _ w.heap.size 45 #[(.slice A6 ll.length n6), .map (some bm), .int .i64 mg] (0, 0) _ rfl (by simpa using bx9) Tryd.underlying45 rfl (by kernel_rfl)) rfl ?_
      have belx := ((HCL.out.bel.setCell (B := w.heap.size) (p := ⟨w.heap.size, 0, none⟩) (Nat.le_refl _) (.slice A6 ll.length n6)).setCell (p := ⟨w.heap.size, 1, none⟩) (Nat.le_refl _) (.map (some bm))).setCell (p := ⟨w.heap.size, 2, none⟩) (Nat.le_refl _) (.int .i64 mg)
      have hne9 : bm ≠ w.heap.size := by have := HBM0.out; have := HS5.out; omega
      have rowx := Kd.R_set (Kd.R_set (Kd.R_set HCL.out.row HCL.out.res (by decide) 0 (.slice A6 ll.length n6)) (blk_set HCL.out.res 0 (.slice A6 ll.length n6)) (by decide) 1 (.map (some bm))) (blk_set (blk_set HCL.out.res 0 (.slice A6 ll.length n6)) 1 (.map (some bm))) (by decide) 2 (.int .i64 mg)
      have ks : ∀ {W : World} {n : Nat} (i : Nat) (u : Value), W.ownsMap Tryd.prog 9 (plainElem (H := Unit) Tryd.prog 3) bm n Dout → (W.setCell ⟨w.heap.size, i, none⟩ u).ownsMap Tryd.prog 9 (plainElem (H := Unit) Tryd.prog 3) bm n Dout := fun {W n} i u h => h.kept (row := some w.heap.size) ⟨rfl, rfl, rfl, by simp, fun k _ hk => Below.heap_setCell W ⟨w.heap.size, i, none⟩ u k (by rintro rfl; exact hk rfl)⟩ (by intro e; injection e with e; exact hne9 e)
      exact ⟨_, bm, rfl, Kd.R_mono rowx (fun _ _ => trivial), ks 2 _ (ks 1 _ (ks 0 _ (HOUT.out.mono (by have := HOWN.out.size_le; omega)))), by have := HBM0.out; have := HS5.out; omega, belx⟩
    · intro sk ca w9 cnt1 hkey hwc hlk hat hrg1 hlt hg1 hs1 hen
      have hout1 := Aside0.mk (HOUT.out.kept hg1 (by have := HBQ.out; have := HIT.out; intro e; injection e with e; omega))
      have CL1 := Aside0.mk (HCL.out.grown hg1 (Or.inr rfl) (by have := HS5.out; have := HBEL7.out.size; have := HIT.out; omega) (by have := HBQ.out; have := HIT.out; omega))
      have HKEY := Aside0.mk hkey
      have HWC := Aside0.mk hwc
      have HRG1 := Aside0.mk hrg1
      have HG1 := Aside0.mk hg1
      have HLT1 := Aside0.mk hlt
      have HAT := Aside0.mk hat
      have p1 : w9.cell? ⟨pq, 1, none⟩ = some (.map (some bm)) := (blk_cell CL1.out.box 1).trans rfl
      clear hkey hwc hlk hat hrg1 hlt hg1 hs1
      go_wp2_with (at_mapUpdate; refine wpList_mapUpdate_own _ rfl _ _ _ 43 rfl 9 3 placesLaw Tryd.underlying43 _ bm _ _ rfl hout1.out (by have := HOWN.out.size_le; have := HGL.out; unfold maxLen; omega) _ _ _ rfl rfl HKEY.out _ [] (plainElem_int Tryd.underlying3 HWC.out) ?_; intro w10 hout2 hg2; go_frame)
      have hrg2 := HRG1.out.kept hg2 (fun e => by have := Option.some.inj e; have := HBM0.out; have := HS5.out; have := HLB.out; omega) (fun e => by have := Option.some.inj e; have := HBQ.out; have := HIT.out; omega)
      go_roundw
      case rel => exact ⟨_, cnt1, _, hrg2, by have := HLT1.out; have := HCS.out; omega, hout2.mono (by have := HLT1.out; have := HCS.out; omega), agree_step HA.out HOUT.out.isMap (by trivial) HAT.out, CL1.out.grown hg2 (Or.inl rfl) (by have := HBM0.out; have := HS5.out; omega) (fun e => HNE.out e.symm)⟩
      case measure => rw [hrg2.left_eq, HRG.out.left_eq]; exact HLT1.out
end Go.Proofs.YtfgglniigeagdaaDoor.Cn
namespace Go.Proofs.YtfgglniigeagdaaDoor.QD
open Go.RowKit Go.Proofs.YtfgglniigeagdaaDoorW.PrintWords Go.Proofs.YtfgglniigeagdaaDoorW.PrintLast Go.Proofs.YtfgglniigeagdaaDoorW.PrintMore
attribute [local go_sem] max2_int min2_int max_two min_two max_three min_three max_four min_four 
set_option linter.unusedVariables false
set_option linter.unusedSimpArgs false
def ratchetlaw06_plain.f  : Option ((List (S62))) := if ([] : List (S53)).length < 1256584717458 then (if ([] : List (S62)).length < 4398046511104 then (some (([] : List (S62)) ++ [(⟨(([] : List (S53)) ++ [(⟨true, ([] : List Int), (⟨1, ([] : List (S74)), ([] : List (S74)), ([] : List (S118))⟩ : S51)⟩ : S53)]), false⟩ : S62)])) else (none)) else (none)
set_option maxHeartbeats 8000000 in
set_option maxRecDepth 100000 in
theorem ratchetlaw06_plain.calls  (r : List (S62)) (w : World) (h : ratchetlaw06_plain.f  = some r) :
    Calls Tryd.prog 42 #[] w fun e w' => ∃ v0_ : Value, e = .returned (v0_) ∧ Kd.R k62 62 w' w.heap.size (fun _ => True) v0_ r ∧ Below w.heap.size w w' := by
  have hu62 := Tryd.underlying62
  have hu51 := Tryd.underlying51
  have hu53 := Tryd.underlying53
  have HB := Aside0.mk (Below.refl w.heap.size w)
  have H : (if ([] : List (S53)).length < 1256584717458 then (if ([] : List (S62)).length < 4398046511104 then (some (([] : List (S62)) ++ [(⟨(([] : List (S53)) ++ [(⟨true, ([] : List Int), (⟨1, ([] : List (S74)), ([] : List (S74)), ([] : List (S118))⟩ : S51)⟩ : S53)]), false⟩ : S62)])) else (none)) else (none)) = some r := h
  clear h
  by_cases c1 : ([] : List (S53)).length < 1256584717458
  · rw [if_pos c1] at H
    have LMc1 := Aside0.mk c1
    clear c1
    obtain ⟨y250, hy250⟩ : ∃ y_ : List (S53), y_ = (([] : List (S53)) ++ [(⟨true, ([] : List Int), (⟨1, ([] : List (S74)), ([] : List (S74)), ([] : List (S118))⟩ : S51)⟩ : S53)]) := ⟨_, rfl⟩
    replace H : (if ([] : List (S62)).length < 4398046511104 then (some (([] : List (S62)) ++ [(⟨y250, false⟩ : S62)])) else (none)) = some r := by first | (rw [hy250]; with_reducible exact H) | (have H2_ := (Option.bind_some _ _).symm.trans H; rw [hy250]; with_reducible exact H2_) | (have H2_ := (Option.bind_some _ _).symm.trans H; with_reducible exact H2_) | with_reducible exact H | (rw [hy250]; exact H) | exact H
    have Ny250 := Aside0.mk hy250
    clear hy250
    by_cases c2 : ([] : List (S62)).length < 4398046511104
    · rw [if_pos c2] at H
      have LMc2 := Aside0.mk c2
      clear c2
      obtain ⟨y253, hy253⟩ : ∃ y_ : List (S62), y_ = (([] : List (S62)) ++ [(⟨y250, false⟩ : S62)]) := ⟨_, rfl⟩
      replace H : (some y253) = some r := by first | (rw [hy253]; with_reducible exact H) | (have H2_ := (Option.bind_some _ _).symm.trans H; rw [hy253]; with_reducible exact H2_) | (have H2_ := (Option.bind_some _ _).symm.trans H; with_reducible exact H2_) | with_reducible exact H | (rw [hy253]; exact H) | exact H
      have Ny253 := Aside0.mk hy253
      clear hy253
      obtain rfl := Option.some.inj H
      go_enter Tryd.func42, Tryd.ntmps42
      go_wp2_with (first | ((with_reducible refine gate_dst (N := 2) rfl ?_); refine box_event ?hg (N := 2) ?hd (cs := #[.slice none 0 0, .bool false]) (t := 62) ?hr ?_; (case hd => rfl); (case hg => rfl); (case hr => first | (go_simp; done) | (go_simp; rfl)); intro gb249 hg w3 hbox hb; have n0_ := Aside0.mk (below_step (by repeat (first | (with_reducible first | exact HB.out | apply below_alloc | apply pw_below_drewN | apply below_drew1) | exact HB.out)) hb); have n1_ := Aside0.mk (hbox); have n2_ := Aside0.mk ((by rw [hg]; exact (below_size (by repeat (first | (with_reducible first | exact HB.out | apply below_alloc | apply pw_below_drewN | apply below_drew1) | exact HB.out))) : w.heap.size ≤ gb249)); have n3_ := Aside0.mk ((by rw [hg]; exact (below_size (by repeat (first | (with_reducible first | exact HB.out | apply below_alloc | apply pw_below_drewN | apply below_drew1) | exact HB.out))) : w.heap.size ≤ gb249)); clear HB; have HB := n0_; have BK249 := n1_; have GW249 := n2_; have GE249 := n3_; clear n0_ n1_ n2_ n3_; clear hb hbox hg; have hcz4_0 : w3.cell? ⟨gb249, 0, none⟩ = some (.slice none 0 0) := (blk_cell BK249.out 0).trans rfl; have hcz4_1 : w3.cell? ⟨gb249, 1, none⟩ = some (.bool false) := (blk_cell BK249.out 1).trans rfl; have hfz4_0 := blk_frozen BK249.out 0; have hfz4_1 := blk_frozen BK249.out 1) | ((with_reducible refine gate_builtin (b := .append) (xs := #[.tmp 4, .tmp 7]) rfl ?_); at_builtin; refine Kd.S_append k53 (w0 := w) w.heap.size rfl (.tmp 4) (.tmp 7) 60 53 (.agg #[(.bool false), (.slice none 0 0), (.int .i64 0), (.slice none 0 0), (.slice none 0 0), (.slice none 0 0)]) 112 rfl Tryd.underlying60 info53 rfl (by decide) (by omega) (.slice none 0 0) ([] : List (S53)) (⟨true, ([] : List Int), (⟨1, ([] : List (S74)), ([] : List (S74)), ([] : List (S118))⟩ : S51)⟩ : S53) [.bool true, .slice none 0 0, .int .i64 1, .slice none 0 0, .slice none 0 0, .slice none 0 0] (fun _ => True) (fun _ => False) rfl rfl ?aP (fun k_ hk_ => hk_.elim) ?aF ?aO ?aB ?aS ?aL ?_; (case aP => exact k53_mkM _ _ _ (⟨true, ([] : List Int), (⟨1, ([] : List (S74)), ([] : List (S74)), ([] : List (S118))⟩ : S51)⟩ : S53) (Kd.R_nil _ _ _ _ _) (Kd.R_nil _ _ _ _ _) (Kd.R_nil _ _ _ _ _) (Kd.R_nil _ _ _ _ _)); (case aB => exact (by repeat (first | (with_reducible first | exact HB.out | apply below_alloc | apply pw_below_drewN | apply below_drew1 | refine below_set ?_ GE249.out) | exact HB.out))); (case aF => exact (fun _ _ => trivial)); (case aO => exact ((Kd.S_nil _ _ _ _ _))); (case aS => exact (below_size (by repeat (first | (with_reducible first | exact HB.out | apply below_alloc | apply pw_below_drewN | apply below_drew1 | refine below_set ?_ GE249.out) | exact HB.out)))); (case aL => have := LMc1.out; omega); intro v251 w5 ho hb hg hat; rw [← Ny250.out] at ho; have n0_ := Aside0.mk (blk_grown (g := gb249) (o := .cells #[.slice none 0 0, .bool false] 62 (0, 0)) (by (with_reducible repeat (first | refine blk_drewN ?_ _ | refine blk_drew ?_ | refine blk_alloc ?_ _)); exact BK249.out) hg (by simp [Value.ownBlock])); have n1_ := Aside0.mk (hb); have n2_ := Aside0.mk (ho); clear BK249; clear HB; have BK249 := n0_; have HB := n1_; have HO252 := n2_; clear n0_ n1_ n2_; clear ho hb hg hat; obtain ⟨Ao6, co6, eo6⟩ := Kd.S_slice HO252.out; subst eo6; have hcz7_0 : w5.cell? ⟨gb249, 0, none⟩ = some (.slice none 0 0) := (blk_cell BK249.out 0).trans rfl; have hcz7_1 : w5.cell? ⟨gb249, 1, none⟩ = some (.bool false) := (blk_cell BK249.out 1).trans rfl; have hfz7_0 := blk_frozen BK249.out 0; have hfz7_1 := blk_frozen BK249.out 1) | ((with_reducible refine gate_store (t := 60) (p := 9) rfl ?_); refine store_event (t := 60) (p := 9) (v := ?vo_w8) (w1 := (w5.setCell ⟨gb249, 0, none⟩ (.slice Ao6 y250.length co6))) ?hg ?ho ?hn ?hr ?_; (case ho => rfl); (case hg => rfl); (case hn => rfl); (case hr => first | (go_simp; done) | (go_simp; rfl)); intro w8 hw; have n0_ : Aside0 (Kd.S k53 53 w8 w.heap.size (fun _ => True) (.slice Ao6 y250.length co6) y250) := ⟨(by rw [hw]; exact (by (with_reducible repeat (first | apply Kd.S_alloc | apply Kd.S_drewN | apply Kd.S_drew)); exact Kd.S_mono (Kd.S_far (p := ⟨gb249, 0, none⟩) (Kd.S_types HO252.out BK249.out (by decide)) (fun _ hk => hk.2) (.slice Ao6 y250.length co6)) (fun _ hk => trivial)))⟩; have n1_ : Aside0 (w8.heap[gb249]? = some (.cells #[.slice Ao6 y250.length co6, .bool false] 62 (0, 0))) := ⟨(by rw [hw]; exact (by (with_reducible repeat (first | refine blk_drewN ?_ _ | refine blk_drew ?_ | refine blk_alloc ?_ _)); refine blk_put (cs := #[.slice none 0 0, .bool false]) ?_ 0 _ rfl; (with_reducible repeat (first | refine blk_drewN ?_ _ | refine blk_drew ?_ | refine blk_alloc ?_ _)); exact BK249.out))⟩; have n2_ : Aside0 (Below w.heap.size w w8) := ⟨(by rw [hw]; exact (by repeat (first | (with_reducible first | exact HB.out | apply below_alloc | apply pw_below_drewN | apply below_drew1 | refine below_set ?_ GE249.out) | exact HB.out)))⟩; clear hw; clear HO252; clear BK249; clear HB; have HO252 := n0_; have BK249 := n1_; have HB := n2_; clear n0_ n1_ n2_; have hcz9_0 : w8.cell? ⟨gb249, 0, none⟩ = some (.slice Ao6 y250.length co6) := (blk_cell BK249.out 0).trans rfl; have hcz9_1 : w8.cell? ⟨gb249, 1, none⟩ = some (.bool false) := (blk_cell BK249.out 1).trans rfl; have hfz9_0 := blk_frozen BK249.out 0; have hfz9_1 := blk_frozen BK249.out 1) | ((with_reducible refine gate_builtin (b := .append) (xs := #[.tmp 10, .tmp 12]) rfl ?_); at_builtin; refine Kd.R_append k62 (w0 := w) w.heap.size rfl (.tmp 10) (.tmp 12) 22 62 (.agg #[(.slice none 0 0), (.bool false)]) 32 rfl Tryd.underlying22 info62 rfl (by decide) (by omega) (.slice none 0 0) ([] : List (S62)) (⟨y250, false⟩ : S62) [.slice Ao6 y250.length co6, .bool false] (fun k_ => k_ ≠ gb249) (fun k_ => ((fun k_ => k_ ≠ gb249)) k_ ∧ some k_ ≠ (.slice none 0 0 : Value).ownBlock) rfl rfl ?aP (fun _ hk => hk) ?aF ?aO ?aB ?aS ?aL ?_; (case aP => exact k62_mkM _ _ _ (⟨y250, false⟩ : S62) (Kd.R_mono (Kd.R_types ((Kd.S_R HO252.out)) BK249.out (by decide)) (fun k_ hk => ⟨hk.2, (by simp [Value.ownBlock])⟩))); (case aB => exact (by repeat (first | (with_reducible first | exact HB.out | apply below_alloc | apply pw_below_drewN | apply below_drew1 | refine below_set ?_ GE249.out) | exact HB.out))); (case aF => exact (fun k_ hk => Kd.freshB (g := gb249) (o := .cells #[.slice Ao6 y250.length co6, .bool false] 62 (0, 0)) (by (with_reducible repeat (first | refine blk_drewN ?_ _ | refine blk_drew ?_ | refine blk_alloc ?_ _)); exact BK249.out) k_ hk)); (case aO => exact ((Kd.R_nil _ _ _ _ (fun k_ => k_ ≠ gb249)))); (case aS => exact (below_size (by repeat (first | (with_reducible first | exact HB.out | apply below_alloc | apply pw_below_drewN | apply below_drew1 | refine below_set ?_ GE249.out) | exact HB.out)))); (case aL => have := LMc2.out; omega); intro v254 w10 ho hb hg hat; rw [← Ny253.out] at ho; have n0_ := Aside0.mk (blk_grown (g := gb249) (o := .cells #[.slice Ao6 y250.length co6, .bool false] 62 (0, 0)) (by (with_reducible repeat (first | refine blk_drewN ?_ _ | refine blk_drew ?_ | refine blk_alloc ?_ _)); exact BK249.out) hg (by simp [Value.ownBlock])); have n1_ := Aside0.mk (hb); have n2_ := Aside0.mk (ho); clear BK249; clear HB; clear HO252; have BK249 := n0_; have HB := n1_; have HO255 := n2_; clear n0_ n1_ n2_; clear ho hb hg hat))
      go_ret
      exact ⟨_, by first | rfl | (simp [errW_none, errW_some] <;> rfl) | (simp [*, errW_none, errW_some] <;> rfl), by (with_reducible repeat (first | apply Kd.R_alloc | apply Kd.R_drewN | apply Kd.R_drew)); exact Kd.R_mono HO255.out (fun _ hk => trivial), by repeat (first | (with_reducible first | exact HB.out | apply below_alloc | apply pw_below_drewN | apply below_drew1 | refine below_set ?_ GE249.out) | exact HB.out)⟩
    · rw [if_neg c2] at H
      exact absurd H (by simp)
  · rw [if_neg c1] at H
    exact absurd H (by simp)
end Go.Proofs.YtfgglniigeagdaaDoor.QD
namespace Go.Proofs.YtfgglniigeagdaaDoor.Cn
set_option linter.unusedSimpArgs false
set_option linter.unusedVariables false
open Go.RowKit Go.Maps Go.Proofs.YtfgglniigeagdaaDoorW.PrintWords Go.Proofs.YtfgglniigeagdaaDoorW.PrintLast Go.Proofs.YtfgglniigeagdaaDoorW.PrintMore Go.Proofs.YtfgglniigeagdaaDoor.QD
/-- What Table.Add answers and leaves: c: is the list closed; st: what adding comes to. -/
def TAddOut (B g b : Nat) (gs : List (List S53)) (c : Prop) (st : Option (List (List S53) × List Int)) (w : World) (e : Ending) (w' : World) : Prop :=
  (¬ c ∧ ∃ n : Int, e = .returned (.tuple #[.slice none 0 0, .int .i64 n, .int .i64 50]) ∧ Below w.heap.size w w') ∨
  (c ∧ match st with
    | none => (∃ n : Int, e = .returned (.tuple #[.slice none 0 0, .int .i64 n, .int .i64 2])) ∧ FrA B w.heap.size w.heap.size w w'
    | some (gs', ids) => ∃ (vi v' : Value) (b' : Nat) (D' : DataW Unit), e = .returned (.tuple #[vi, .int .i64 0, .int .i64 0]) ∧ TB B g 47 [.bool true] (fun k => True ∧ some k ≠ vi.ownBlock) gs' v' b' D' w' ∧ Kd.R (Kd.int .i64) 3 w' w.heap.size (fun _ => True) vi ids ∧ FrA B g b w w')
theorem FrA.sub {B g b g' b' : Nat} {w0 w1 W : World} (hb : Below w0.heap.size w0 w1) (h : FrA B g' b' w1 W) (hB : B ≤ w0.heap.size) (hg : w0.heap.size ≤ g') (hb' : w0.heap.size ≤ b') : FrA B g b w0 W :=
  ⟨(hb.mono hB).trans h.bel, fun k o hk h1 h2 h3 => h.oth k o ((hb.block k (Array.getElem?_eq_some_iff.1 hk).1).trans hk) (by have := (Array.getElem?_eq_some_iff.1 hk).1; omega) (by have := (Array.getElem?_eq_some_iff.1 hk).1; omega) h3, hB⟩
set_option maxRecDepth 100000 in
set_option maxHeartbeats 4000000 in
theorem tadd_calls (B g b : Nat) (gs : List (List S53)) (v : Value) (D : DataW Unit) (A : Option Addr) (c : Nat) (l : List S62) (w : World) (hT : TB B g 47 [.bool true] (fun _ => True) gs v b D w) (hB : B ≤ w.heap.size)
    (hC : Kd.C k62 w A l.length l) (hcap : l.length ≤ c) (hLR : ∀ g' b' w1, Below w.heap.size w w1 → w.heap.size ≤ g' → w.heap.size ≤ b' → LR (fun W => FrA B g' b' w1 W) A l)
    (hsok : ∀ r ∈ l, ∀ s ∈ r.f0, SOk (fun _ => True) s) (hin : Clo l → ∀ r ∈ l, ∀ s ∈ r.f0, RIn s) (hw : wL l ≤ 1048576) (hl : l.length ≤ 1048576) (hm0 : manyOf gs ≤ 1099511627776) (hg0 : gs.length ≤ 1099511627776) :
    Calls Tryd.prog 19 #[.pointer (some ⟨g, 0, none⟩), .slice A l.length c] w fun e w' => TAddOut B g b gs (Clo l) (addTo 10000 (gs, []) l) w e w' := by
  have hc3 : w.cell? ⟨g, 3, none⟩ = some (.bool true) := (blk_cell hT.box 3).trans (by simp)
  have HT := Aside0.mk hT
  have HB := Aside0.mk hB
  have HC := Aside0.mk hC
  have HLR := Aside0.mk hLR
  have HSOK := Aside0.mk hsok
  have HIN := Aside0.mk hin
  have HW := Aside0.mk hw
  have HM0 := Aside0.mk hm0
  have HG0 := Aside0.mk hg0
  have HL := Aside0.mk hl
  clear hT hB hC hLR hsok hin hw hm0 hg0
  go_enter Tryd.func19, Tryd.ntmps19
  go_wp2_with fail
  refine (none_made g _ hc3).mono ?_
  rintro e w1 ⟨rfl, hw1⟩
  obtain rfl := hw1.symm
  go_wp2_with fail
  have htc : tcount l ≤ 1048576 := by have := tcount_le_wL l; have := HW.out; omega
  refine (closed_calls A c l _ HC.out hcap (by omega) (by omega) HSOK.out).mono ?_
  rintro e w2 ⟨⟨n, er, rfl, hcl⟩, hb2⟩
  rcases hcl with ⟨rfl, rfl, hclo⟩ | ⟨rfl, hclo⟩
  rotate_left
  · go_wp2_with fail
    go_ret3
    exact Or.inl ⟨hclo, n, rfl, hb2⟩
  have HCLO := Aside0.mk hclo
  have HB2 := Aside0.mk hb2
  have HT2 := Aside0.mk (HT.out.below hb2 HB.out)
  clear hclo hb2 htc
  go_wp2_with fail
  have hBz : B ≤ w2.heap.size := Nat.le_trans HB.out HB2.out.size
  refine (copied_calls B g b 47 [.bool true] gs v D w2 HT2.out hBz HG0.out).mono ?_
  rintro e w3 ⟨v', bm, rfl, hr3, hm3, hbm, hb3⟩
  obtain ⟨A3, c3, e3⟩ := Kd.R_slice hr3
  rw [famsFrom_length] at e3
  subst e3
  have HB3 := Aside0.mk hb3
  have HBZ := Aside0.mk hBz
  have HBM := Aside0.mk hbm
  obtain ⟨mg, hmg⟩ : ∃ mg : Int, mg = manyOf gs := ⟨_, rfl⟩
  have T3 : Aside0 (TB B w3.heap.size 45 [] (fun _ => True) gs (.slice A3 gs.length c3) bm D (w3.alloc (.cells #[.slice A3 gs.length c3, .map (some bm), .int .i64 mg] 45))) := ⟨{
    box := by rw [hmg]; exact blk_new w3 _
    row := Kd.R_below hr3 ((Below.refl _ _).alloc (Nat.le_refl _) _)
    map := hm3.alloc _
    pm := HT2.out.pm
    hg := Nat.le_trans hBz hb3.size
    hb := Nat.le_trans hBz hbm
    tab := (HT2.out.tab.on (hb3.mono hBz)).on ((Below.refl B _).alloc (Nat.le_trans hBz hb3.size) _) }⟩
  have HMG := Aside0.mk hmg
  rw [← hmg]
  clear hr3 hm3 hbm hb3 hBz hmg
  go_wp2_with fail
  have hbw : Below w.heap.size w (w3.alloc (.cells #[.slice A3 gs.length c3, .map (some bm), .int .i64 mg] 45)) := (HB2.out.trans (HB3.out.mono HB2.out.size)).trans ((Below.refl w.heap.size _).alloc (Nat.le_trans HB2.out.size HB3.out.size) _)
  have hz1 : w.heap.size ≤ w3.heap.size := Nat.le_trans HB2.out.size HB3.out.size
  have hz2 : w.heap.size ≤ bm := Nat.le_trans HB2.out.size HBM.out
  have HBW := Aside0.mk hbw
  have HZ1 := Aside0.mk hz1
  have HZ2 := Aside0.mk hz2
  refine (add_calls ⟨B, w3.heap.size, 45, [], gs, bm, l, 10000, w3.alloc (.cells #[.slice A3 gs.length c3, .map (some bm), .int .i64 mg] 45)⟩ _ D A c T3.out (Or.inr rfl) (Nat.le_trans HB.out hbw.size) (HLR.out _ _ _ hbw hz1 hz2) hcap (HIN.out HCLO.out) HW.out HL.out HM0.out HG0.out ⟨by show (0 : Int) ≤ 10000; decide, by show (10000 : Int) ≤ 9223372036854775807; decide⟩).mono ?_
  intro e w4 hout
  unfold AddOut at hout
  dsimp only at hout
  obtain ⟨st, hst⟩ : ∃ st, st = addTo 10000 (gs, []) l := ⟨_, rfl⟩
  rw [← hst] at hout
  have HST := Aside0.mk hst
  clear hst hbw hz1 hz2
  rcases st with _ | ⟨gs', ids⟩
  · obtain ⟨n, gs1, v1, D1, rfl, ht4, hf4⟩ := hout
    have HF := Aside0.mk hf4
    clear ht4 hf4
    have hn0 : (0 : Int) ≤ n := by omega
    go_wp2_with fail
    go_ret3
    refine Or.inr ⟨HCLO.out, ?_⟩
    rw [← HST.out]
    exact ⟨⟨n, rfl⟩, FrA.sub HBW.out HF.out HB.out HZ1.out HZ2.out⟩
  · obtain ⟨v4, D4, vi, rfl, hai⟩ := hout
    have HAI := Aside0.mk hai
    have T4 := Aside0.mk hai.tb
    have HF := Aside0.mk (FrA.sub (g := g) (b := b) HBW.out hai.fr HB.out HZ1.out HZ2.out)
    have hbx := T4.out.box
    dsimp only at hbx
    obtain ⟨q0, q1, q2⟩ := cells3 hbx
    obtain ⟨A4, n4, c4, e4⟩ : ∃ A4 n4 c4, v4 = .slice A4 n4 c4 := by obtain ⟨A4, c4, e4⟩ := Kd.R_slice T4.out.row; exact ⟨_, _, _, e4⟩
    subst e4
    have bx : w4.heap[g]? = some (.cells (v :: .map (some b) :: .int .i64 (manyOf gs) :: [.bool true]).toArray 47 (0, 0)) := by
      refine hai.fr.oth g _ ?_ ?_ ?_ ?_
      · exact (HBW.out.block g (blk_lt HT.out.box)).trans HT.out.box
      · dsimp only; have := HZ1.out; have := blk_lt HT.out.box; omega
      · dsimp only; have := HZ2.out; have := blk_lt HT.out.box; omega
      · intro c_ fz_ e_; injection e_ with _ e_; exact absurd e_ (by decide)
    have BX := Aside0.mk bx
    obtain ⟨m4, hm4⟩ : ∃ m4 : Int, m4 = manyOf gs' := ⟨_, rfl⟩
    rw [← hm4] at q2
    have HM4 := Aside0.mk hm4
    obtain ⟨r0, r1, r2⟩ := cells3 bx
    have f0 : w4.frozen? ⟨g, 0, none⟩ = false := blk_frozen bx 0
    have f1 : w4.frozen? ⟨g, 1, none⟩ = false := blk_frozen bx 1
    have f2 : w4.frozen? ⟨g, 2, none⟩ = false := blk_frozen bx 2
    clear hai hbx bx hm4
    go_wp2_with fail
    go_ret3
    refine Or.inr ⟨HCLO.out, ?_⟩
    rw [← HST.out]
    have b1 := blk_set (blk_set (blk_set BX.out 0 (.slice A4 n4 c4)) 1 (.map (some bm))) 2 (.int .i64 m4)
    have hg : B ≤ g := HT.out.hg
    refine ⟨vi, .slice A4 n4 c4, bm, D4, rfl, ?_, ?_, ?_⟩
    · refine ⟨by rw [← HM4.out]; simpa using b1, ?_, ?_, HAI.out.tb.pm, hg, HAI.out.tb.hb, ?_⟩
      · exact Kd.R_set (Kd.R_set (Kd.R_set T4.out.row BX.out (by decide) 0 _) (blk_set BX.out 0 _) (by decide) 1 _) (blk_set (blk_set BX.out 0 _) 1 _) (by decide) 2 _
      · have hne : bm ≠ g := by have := HZ2.out; have := blk_lt HT.out.box; omega
        have ks : ∀ {W : World} {n : Nat} (i : Nat) (u : Value), W.ownsMap Tryd.prog 9 (plainElem (H := Unit) Tryd.prog 3) bm n D4 → (W.setCell ⟨g, i, none⟩ u).ownsMap Tryd.prog 9 (plainElem (H := Unit) Tryd.prog 3) bm n D4 := fun {W n} i u h => h.kept (row := some g) ⟨rfl, rfl, rfl, by simp, fun k _ hk => Below.heap_setCell W ⟨g, i, none⟩ u k (by rintro rfl; exact hk rfl)⟩ (by intro e; injection e with e; exact hne e)
        exact ks 2 _ (ks 1 _ (ks 0 _ T4.out.map))
      · exact T4.out.tab.on ((((Below.refl B _).setCell (p := ⟨g, 0, none⟩) hg _).setCell (p := ⟨g, 1, none⟩) hg _).setCell (p := ⟨g, 2, none⟩) hg _)
    · exact Kd.R_set (Kd.R_set (Kd.R_set (Kd.R_lower HAI.out.iv (by have := HBW.out.size; exact this)) BX.out (by decide) 0 _) (blk_set BX.out 0 _) (by decide) 1 _) (blk_set (blk_set BX.out 0 _) 1 _) (by decide) 2 _
    · exact ((HF.out.store hg 0 _).store hg 1 _).store hg 2 _
end Go.Proofs.YtfgglniigeagdaaDoor.Cn
namespace Go.Proofs.YtfgglniigeagdaaDoor.Cn
set_option linter.unusedSimpArgs false
set_option linter.unusedVariables false
open Go.RowKit Go.Maps Go.Proofs.YtfgglniigeagdaaDoorW.PrintWords Go.Proofs.YtfgglniigeagdaaDoorW.PrintLast Go.Proofs.YtfgglniigeagdaaDoorW.PrintMore Go.Proofs.YtfgglniigeagdaaDoor.QD
theorem cell_of_heap {w w' : World} {p : Addr} (h : w'.heap[p.block]? = w.heap[p.block]?) : w'.cell? p = w.cell? p := by
  unfold World.cell?
  rw [h]
/-- A list that was made is read alike while groups are added. -/
theorem LR.of_R {w w1 : World} {A : Option Addr} {c B0 B g b : Nat} {l : List S62} {ok : Nat → Prop} (hr : Kd.R k62 62 w B0 ok (.slice A l.length c) l) (hw : Below w.heap.size w w1) (hg : w.heap.size ≤ g) (hb : w.heap.size ≤ b) : LR (fun W => FrA B g b w1 W) A l := by
  have kept : ∀ W, FrA B g b w1 W → ∀ k q cells, k < w.heap.size → q ∈ 62 :: k62.E → w.heap[k]? = some (.cells cells q (0, 0)) → W.heap[k]? = w.heap[k]? := by
    intro W hW k q cells hk hq hc
    rw [hc]
    refine hW.oth k _ ((hw.block k hk).trans hc) (by omega) (by omega) ?_
    intro c_ fz_ e
    injection e with _ e _
    subst e
    revert hq
    decide
  have hRW : ∀ W, FrA B g b w1 W → Kd.C k62 W A l.length l := by
    intro W hW
    have h1 := Kd.R_step (Kd.R_bound hr) (w1 := W) (fun k hk hlt => by obtain ⟨_, _, _, q, hq, cells, hc⟩ := hk; exact kept W hW k q cells hlt hq hc)
    obtain ⟨A', c', e, _, h2⟩ := Kd.R_reads h1
    injection e with e
    subst e
    exact h2
  have hC0 : Kd.C k62 w A l.length l := by
    obtain ⟨A', c', e, _, h2⟩ := Kd.R_reads hr
    injection e with e
    subst e
    exact h2
  have hblk : ∀ ad, A = some ad → ∀ W, FrA B g b w1 W → ∀ p : Addr, p.block = ad.block → W.cell? p = w.cell? p := by
    intro ad e W hW p hp
    subst e
    obtain ⟨_, inner, ho, _⟩ := hr
    obtain ⟨cells, hc⟩ := own_typed ho ad.block rfl
    refine cell_of_heap ?_
    rw [hp]
    exact (kept W hW ad.block _ cells (own_lt ho ad.block rfl) (List.mem_cons_self ..) hc)
  have key : ∀ j : Nat, ∃ p : Option Addr × Nat, ∀ r, l[j]? = some r → ∃ ad, A = some ad ∧ w.cell? (ad.add (j * 2)) = some (.slice p.1 r.f0.length p.2) ∧ w.cell? ⟨(ad.add (j * 2)).block, (ad.add (j * 2)).off + 1, none⟩ = some (.bool r.f1) ∧ r.f0.length ≤ p.2 := by
    intro j
    rcases Nat.lt_or_ge j l.length with hj | hj
    · obtain ⟨ad, A0, c0, e, h0, h1, h2, h3⟩ := at_T62 hC0 (j : Int) (by omega) (by omega)
      refine ⟨(A0, c0), fun r hr => ⟨ad, e, ?_⟩⟩
      have e1 : rd_T62 l (j : Int) = r := by
        have := rd_RT_at l j hj
        rw [hr] at this
        injection this with this
        exact this.symm
      rw [e1] at h0 h1 h2
      exact ⟨h0, h1, h2⟩
    · exact ⟨(none, 0), fun r hr => by rw [List.getElem?_eq_none hj] at hr; cases hr⟩
  obtain ⟨hd, hh⟩ := Classical.axiomOfChoice key
  refine ⟨hd, fun j r hrj => ?_⟩
  obtain ⟨ad, e, h0, h1, h2⟩ := hh j r hrj
  refine ⟨ad, e, fun W hW => ?_⟩
  have hj : j < l.length := (List.getElem?_eq_some_iff.1 hrj).1
  obtain ⟨ad', A0', c0', e', g0, g1, g2, g3⟩ := at_T62 (hRW W hW) (j : Int) (by omega) (by omega)
  have e1 : rd_T62 l (j : Int) = r := by
    have := rd_RT_at l j hj
    rw [hrj] at this
    injection this with this
    exact this.symm
  rw [e1] at g0 g1 g2 g3
  rw [e] at e'
  injection e' with e'
  subst e'
  have x0 : W.cell? (ad.add (j * 2)) = some (.slice (hd j).1 r.f0.length (hd j).2) := (hblk ad e W hW (ad.add (j * 2)) (by unfold Addr.add; split <;> rfl)).trans h0
  have x1 : W.cell? ⟨(ad.add (j * 2)).block, (ad.add (j * 2)).off + 1, none⟩ = some (.bool r.f1) := (hblk ad e W hW ⟨(ad.add (j * 2)).block, (ad.add (j * 2)).off + 1, none⟩ (by unfold Addr.add; split <;> rfl)).trans h1
  have g0' : W.cell? (ad.add (j * 2)) = some (.slice A0' r.f0.length c0') := g0
  rw [x0] at g0'
  injection g0' with g0'
  injection g0' with y1 y2 y3
  rw [← y1] at g3
  exact ⟨x0, x1, h2, g3⟩
set_option maxRecDepth 100000 in
theorem count_made {B g b : Nat} {ok : Nat → Prop} {gs : List (List S53)} {v : Value} {D : DataW Unit} (w : World) (h : TB B g 47 [.bool true] ok gs v b D w) : Calls Tryd.prog 23 #[.pointer (some ⟨g, 0, none⟩)] w fun e w' => e = .returned (.int .i64 (manyOf gs)) ∧ w' = w := by
  obtain ⟨_, _, c2⟩ := cells3 h.box
  have hc3 : w.cell? ⟨g, 3, none⟩ = some (.bool true) := (blk_cell h.box 3).trans (by simp)
  obtain ⟨mg, hmg⟩ : ∃ mg : Int, mg = manyOf gs := ⟨_, rfl⟩
  rw [← hmg] at c2 ⊢
  clear h hmg
  go_enter Tryd.func23, Tryd.ntmps23
  go_wp2_with (go_at_call 43; refine (none_made g _ hc3).mono ?_; rintro e w' ⟨rfl, hw_⟩; obtain rfl := hw_.symm)
  go_ret
  exact ⟨rfl, rfl⟩
def stP : S53 := ⟨true, [], ⟨1, [], [], []⟩⟩
def rtP : S62 := ⟨[stP], false⟩
theorem plain_eq : ratchetlaw06_plain.f = some [rtP] := by unfold ratchetlaw06_plain.f; simp [rtP, stP]
theorem clo_P : Clo [rtP, rtP] := by
  intro j r hr s hs
  have h1 : r = rtP := by
    rcases j with _ | _ | j
    · simp at hr; exact hr.symm
    · simp at hr; exact hr.symm
    · simp at hr
  subst h1
  simp only [rtP, List.mem_singleton] at hs
  subst hs
  rfl
theorem in_P : ∀ r ∈ [rtP, rtP], ∀ s ∈ r.f0, RIn s := by
  intro r hr s hs
  simp only [List.mem_cons, List.not_mem_nil, or_false, or_self] at hr
  subst hr
  simp only [rtP, List.mem_singleton] at hs
  subst hs
  exact ⟨⟨by simp [stP], by simp [stP], by simp [stP], by simp [stP], by simp [stP], by simp [stP], by simp [stP], by simp [stP]⟩, by simp [stP, N64], by simp [stP], by simp [stP], by simp [stP]⟩
theorem roll_P (ids : List Int) : ownG ids rtP = [stP] := by
  unfold ownG rtP
  simp only [List.map_cons, List.map_nil, mroll_eq]
  simp [stP]
theorem add_P : addTo 10000 ([], []) [rtP, rtP] = some ([[stP]], [0, 0]) := by
  have h1 : addStep 10000 ([], []) rtP = some ([[stP]], [0]) := by
    unfold addStep
    simp only [roll_P]
    simp [findK, manyOf, idsFrom]
  have h2 : addStep 10000 ([[stP]], [0]) rtP = some ([[stP]], [0, 0]) := by
    unfold addStep
    simp only [roll_P]
    simp [findK, manyOf, idsFrom, firstOf]
  simp only [addTo, h1, h2, Option.bind_some]
set_option maxRecDepth 100000 in
set_option maxHeartbeats 4000000 in
theorem alive_calls (w : World) (htab : Lib.TabBelow Tryd.prog w.heap.size w "internal/strconv.uint64pow10" .u64 Lib.pow10Tab) : Calls Tryd.prog 17 #[] w fun e w' => e = .returned (.bool true) ∧ Below w.heap.size w w' := by
  have HTAB := Aside0.mk htab
  clear htab
  go_enter Tryd.func17, Tryd.ntmps17
  go_wp2_with fail
  refine (new_calls w HTAB.out).mono ?_
  rintro e w1 ⟨rfl, ht1, hb1⟩
  have T1 := Aside0.mk ht1
  have B1 := Aside0.mk hb1
  clear ht1 hb1
  go_wp2_with fail
  refine (ratchetlaw06_plain.calls _ w1 plain_eq).mono ?_
  rintro e w2 ⟨vl, rfl, hr2, hb2⟩
  have T2 := Aside0.mk (T1.out.below hb2 B1.out.size)
  have B2 := Aside0.mk (B1.out.trans (hb2.mono B1.out.size))
  have hz12 : w1.heap.size ≤ w2.heap.size := hb2.size
  obtain ⟨Al, cl, hvl, hcl, hC⟩ := Kd.R_reads hr2
  subst hvl
  have HR2 := Aside0.mk hr2
  obtain ⟨ad, A0, c0, e0, d0, d1, hc0, hC0⟩ := at_T62 hC 0 (by decide) (by decide)
  subst e0
  have ev : rd_T62 [rtP] 0 = rtP := rfl
  rw [ev] at d0 d1 hc0 hC0
  have d0' : w2.cell? ad = some (.slice A0 1 c0) := d0
  have d1' : w2.cell? ⟨ad.block, ad.off + 1, none⟩ = some (.bool false) := d1
  have hinner : Kd.R k53 53 w2 w1.heap.size (fun k => True ∧ some k ≠ (Value.slice (some ad) 1 cl).ownBlock) (.slice A0 1 c0) [stP] := by
    obtain ⟨A', c', e1, _, hrd⟩ := OwnRow.reads HR2.out.2
    injection e1 with e1
    subst e1
    obtain ⟨ad', cs, e2, _, hM, hcell⟩ := ReadsRow.get_ hrd rtP 0 (by decide) (by decide)
    injection e2 with e2
    subst e2
    obtain ⟨v0, e3, hv0⟩ := k62_openM hM
    subst e3
    have h0 : w2.cell? ad = some v0 := hcell 0 v0 rfl
    rw [d0'] at h0
    injection h0 with h0
    subst h0
    exact hv0
  have HIN := Aside0.mk hinner
  have HZ := Aside0.mk hz12
  clear hr2 hb2 hC d0 d1 hC0 hinner ev hz12
  have hl1 : ([rtP] : List S62).length = 1 := rfl
  rw [hl1] at hcl
  clear hl1
  go_wp2_with (at_builtin; refine Kd.R_append k62 (w0 := w2) w1.heap.size rfl (.tmp 12) (.tmp 16) 22 62 (.agg #[.slice none 0 0, .bool false]) 32 rfl Tryd.underlying22 info62 rfl (by decide) (by decide) (.slice (some ad) 1 cl) [rtP] rtP [.slice A0 1 c0, .bool false] (fun _ => True) (fun k => True ∧ some k ≠ (Value.slice (some ad) 1 cl).ownBlock) rfl rfl (k62_mkM w2 w1.heap.size _ rtP HIN.out) (fun _ hk => hk) (fun _ _ => trivial) HR2.out (Below.refl _ _) HZ.out (by decide) ?_; intro v3 w3 hr3 hb3 hg3 hat3; obtain ⟨A3, c3, e3⟩ := Kd.R_slice hr3; subst e3; have HR3 := Aside0.mk hr3; have HB3 := Aside0.mk hb3; have HG3 := Aside0.mk hg3; clear hr3 hb3 hg3 hat3)
  have T3 : Aside0 (TB w.heap.size (w.heap.size + 1) 47 [.bool true] (fun _ => True) [] (.slice none 0 0) w.heap.size (.map []) w3) := ⟨(TB.grown (ok := fun _ => False) ⟨T2.out.box, Kd.R_nil _ _ _ _ _, T2.out.map, T2.out.pm, T2.out.hg, T2.out.hb, T2.out.tab⟩ HR2.out B1.out.size (by decide) HG3.out (fun _ hk => hk.elim)).weak (fun _ hk => hk.elim)⟩
  have hsz3 : w.heap.size ≤ w3.heap.size := Nat.le_trans (Nat.le_trans B1.out.size HZ.out) HG3.out.size
  have B3 : Aside0 (Below w.heap.size w w3) := ⟨B2.out.trans (bel_of_grown HG3.out (Nat.le_trans B1.out.size HZ.out) (fun k e => by have := own_base' HR2.out k e; have := B1.out.size; omega))⟩
  obtain ⟨A3', c3', e4, hcap3, hC3⟩ := Kd.R_reads HR3.out
  injection e4 with e4 e5 e6
  subst e4 e6
  have HC3 := Aside0.mk hC3
  have HS3 := Aside0.mk hsz3
  clear hC3 hsz3 e5
  refine (tadd_calls w.heap.size (w.heap.size + 1) w.heap.size [] (.slice none 0 0) (.map []) A3 c3 ([rtP] ++ [rtP]) w3 T3.out HS3.out HC3.out hcap3 (fun g' b' w1' h1 h2 h3 => LR.of_R HR3.out h1 h2 h3) (fun r hr s hs => (in_P r hr s hs).ok.imp (fun _ _ => trivial)) (fun _ => in_P) (by decide) (by decide) (by decide) (by decide)).mono ?_
  intro e w4 hout
  unfold TAddOut at hout
  rcases hout with ⟨hn, _⟩ | ⟨_, hout⟩
  · exact absurd clo_P hn
  rw [show addTo 10000 ([], []) ([rtP] ++ [rtP]) = some ([[stP]], [0, 0]) from add_P] at hout
  obtain ⟨vi, v', b', D', rfl, ht4, hi4, hf4⟩ := hout
  obtain ⟨Ai, ci, evi, hci, hCi⟩ := Kd.R_reads hi4
  subst evi
  obtain ⟨ai, ei, x0⟩ := Kd.at_int hCi 0 (by decide) (by decide)
  obtain ⟨ai', ei', x1⟩ := Kd.at_int hCi 1 (by decide) (by decide)
  subst ei
  injection ei' with ei'
  subst ei'
  have x0' : w4.cell? ai = some (.int .i64 0) := x0
  have x1' : w4.cell? ⟨ai.block, ai.off + 1, none⟩ = some (.int .i64 0) := x1
  have hl2 : ([0, 0] : List Int).length = 2 := rfl
  rw [hl2] at hci
  have T4 := Aside0.mk ht4
  have F4 := Aside0.mk hf4.bel
  clear ht4 hi4 hf4 hCi x0 x1 hl2
  go_wp2_with (go_at_call 23; refine (count_made w4 T4.out).mono ?_; rintro e w' ⟨rfl, hw_⟩; obtain rfl := hw_.symm)
  go_ret
  exact ⟨rfl, B3.out.trans F4.out⟩
end Go.Proofs.YtfgglniigeagdaaDoor.Cn
namespace Go.Proofs.YtfgglniigeagdaaDoor.Cn
set_option linter.unusedSimpArgs false
set_option linter.unusedVariables false
open Go.RowKit Go.Maps Go.Proofs.YtfgglniigeagdaaDoorW.PrintWords Go.Proofs.YtfgglniigeagdaaDoorW.PrintLast Go.Proofs.YtfgglniigeagdaaDoorW.PrintMore Go.Proofs.YtfgglniigeagdaaDoor.QD
end Go.Proofs.YtfgglniigeagdaaDoor.Cn
namespace Go.Proofs.YtfgglniigeagdaaDoor.QD
open Go.RowKit Go.Proofs.YtfgglniigeagdaaDoorW.PrintWords Go.Proofs.YtfgglniigeagdaaDoorW.PrintLast Go.Proofs.YtfgglniigeagdaaDoorW.PrintMore
attribute [local go_sem] max2_int min2_int max_two min_two max_three min_three max_four min_four 
set_option linter.unusedVariables false
set_option linter.unusedSimpArgs false
def types_Count.l0 : Nat → Int → List (S62) → Int → Int → Option (Int)
  | 0, _, _, _, _ => none
  | k + 1, x3, x6, x7, x8 => if x8 < x7 then (if 0 ≤ x8 then (if x8 < (x6.length : Int) then (types_Count.l0 k (wrap64 (x3 + (((rd_T62 x6 x8).f0).length : Int))) x6 x7 (wrap64 (x8 + 1))) else (none)) else (none)) else (some x3)
def types_Count.f (k : Nat) (l0 : List (S62)) : Option (Int) := types_Count.l0 k 0 l0 (l0.length : Int) 0
theorem types_Count.mono_l : ∀ k, (∀ y0 y1 y2 y3, LeO (types_Count.l0 k y0 y1 y2 y3) (types_Count.l0 (k + 1) y0 y1 y2 y3))
  | 0 => fun _ _ _ _ r h => by simp [types_Count.l0] at h
  | k + 1 => by
    have ih0 := types_Count.mono_l k
    · intro y0 y1 y2 y3
      unfold types_Count.l0
      repeat' first
      | (with_reducible exact ih0 _ _ _ _)
      | (with_reducible exact LeO.refl _)
      | (with_reducible exact LeO.none _)
      | (with_reducible refine LeO.ite ?_ ?_)
      | (with_reducible refine LeO.bind ?_ (fun _ => ?_))
      | exact ih0 _ _ _ _
      | exact LeO.none _
      | refine LeO.ite ?_ ?_
      | refine LeO.bind ?_ (fun _ => ?_)
theorem types_Count.mono : ∀ a0 k, LeO (types_Count.f k a0) (types_Count.f (k + 1) a0) := by
  intro a0 k
  have ih0 := types_Count.mono_l k
  unfold types_Count.f
  repeat' first
      | (with_reducible exact ih0 _ _ _ _)
      | (with_reducible exact LeO.refl _)
      | (with_reducible exact LeO.none _)
      | (with_reducible refine LeO.ite ?_ ?_)
      | (with_reducible refine LeO.bind ?_ (fun _ => ?_))
      | exact ih0 _ _ _ _
      | exact LeO.none _
      | refine LeO.ite ?_ ?_
      | refine LeO.bind ?_ (fun _ => ?_)
set_option maxHeartbeats 8000000 in
set_option maxRecDepth 100000 in
theorem types_Count.calls (k : Nat) (A0 : Option Addr) (c0 : Nat) (l0 : List (S62)) (r : Int) (w : World) (hr0 : Kd.C k62 w A0 l0.length l0) (hc0 : l0.length ≤ c0) (h : types_Count.f k l0 = some r) :
    Calls Tryd.prog 39 #[.slice A0 l0.length c0] w fun e w' => e = .returned (.int .i64 r) ∧ Below w.heap.size w w' := by
  have hu62 := Tryd.underlying62
  have HR0 := Aside0.mk hr0
  have HC0 := Aside0.mk hc0
  clear hr0 hc0
  have HB := Aside0.mk (Below.refl w.heap.size w)
  have H : (types_Count.l0 k 0 l0 (l0.length : Int) 0) = some r := h
  clear h
  have H' := Aside0.mk H
  clear H
  go_enter Tryd.func39, Tryd.ntmps39
  go_wp2
  go_loopg [3, 8] k (fun kq v3 v8 w' => ∃ (x3_1 : Int) (x8_1 : Int), v3 = .int .i64 x3_1 ∧ v8 = .int .i64 x8_1 ∧ Aside0 (types_Count.l0 kq x3_1 l0 (l0.length : Int) x8_1 = some r) ∧ Aside0 (kq ≤ k) ∧ Aside0 (Below w.heap.size w w'))
  case atStart => exact ⟨(0), (0), (by first | rfl | (simp; done) | (simp [*]; done)), (by first | rfl | (simp; done) | (simp [*]; done)), H', ⟨Nat.le_refl _⟩, ⟨by repeat (first | (with_reducible first | exact HB.out | apply below_alloc | apply pw_below_drewN | apply below_drew1) | exact HB.out)⟩⟩
  case round =>
    clear H'
    obtain ⟨x3_1, x8_1, rfl, rfl, HA, HK1, HB⟩ := hrel
    cases gk with
    | zero => exact absurd HA.out (by simp [types_Count.l0])
    | succ k1 =>
      have H := HA.out
      clear HA
      simp only [types_Count.l0] at H
      by_cases c2 : x8_1 < (l0.length : Int)
      · rw [if_pos c2] at H
        have c2b0 : decide (x8_1 < (l0.length : Int)) = true := decide_eq_true c2
        clear c2
        by_cases c3 : 0 ≤ x8_1
        · rw [if_pos c3] at H
          have c3b0 : decide (0 ≤ x8_1) = true := decide_eq_true c3
          clear c3
          by_cases c4 : x8_1 < (l0.length : Int)
          · rw [if_pos c4] at H
            have c4b0 : decide (x8_1 < (l0.length : Int)) = true := decide_eq_true c4
            clear c4
            have H' := Aside0.mk H
            clear H
            have p101 : 0 ≤ (x8_1 : Int) := of_decide_eq_true (by first | (with_reducible assumption) | assumption)
            have q101 : x8_1 < (l0.length : Int) := of_decide_eq_true (by first | (with_reducible assumption) | assumption)
            obtain ⟨ad101, A101_0, c101_0, e101, hx101_0, hx101_1, hl101_0, hi101_0⟩ := at_T62 HR0.out x8_1 p101 q101
            cases e101
            replace hx101_0 := (HB.out.cell (World.block_lt_of_cell? w _ hx101_0)).trans hx101_0
            replace hx101_1 := (HB.out.cell (World.block_lt_of_cell? w _ hx101_1)).trans hx101_1
            have HR101_0 := Aside0.mk hi101_0
            have HC101_0 := Aside0.mk hl101_0
            clear hi101_0 hl101_0
            replace p101 := eq_true p101
            replace q101 := eq_true q101
            go_wp2_with (first | ((with_reducible refine gate_dst (N := 5) rfl ?_); refine box_event ?hg (N := 5) ?hd (cs := #[.slice none 0 0, .bool false]) (t := 62) ?hr ?_; (case hd => rfl); (case hg => rfl); (case hr => first | (go_simp; done) | (go_simp; rfl)); intro gb102 hg w5 hbox hb; have n0_ := Aside0.mk (below_step (by repeat (first | (with_reducible first | exact HB.out | apply below_alloc | apply pw_below_drewN | apply below_drew1) | exact HB.out)) hb); have n1_ := Aside0.mk (hbox); have n2_ := Aside0.mk ((by rw [hg]; exact (below_size (by repeat (first | (with_reducible first | exact HB.out | apply below_alloc | apply pw_below_drewN | apply below_drew1) | exact HB.out))) : w.heap.size ≤ gb102)); have n3_ := Aside0.mk ((by rw [hg]; exact (below_size (by repeat (first | (with_reducible first | exact HB.out | apply below_alloc | apply pw_below_drewN | apply below_drew1) | exact HB.out))) : w.heap.size ≤ gb102)); clear HB; have HB := n0_; have BK102 := n1_; have GW102 := n2_; have GE102 := n3_; clear n0_ n1_ n2_ n3_; clear hb hbox hg; have hcz6_0 : w5.cell? ⟨gb102, 0, none⟩ = some (.slice none 0 0) := (blk_cell BK102.out 0).trans rfl; have hcz6_1 : w5.cell? ⟨gb102, 1, none⟩ = some (.bool false) := (blk_cell BK102.out 1).trans rfl; have hfz6_0 := blk_frozen BK102.out 0; have hfz6_1 := blk_frozen BK102.out 1))
            go_roundg k1
            case measure => have := HK1.out; omega
            case rel => exact ⟨(wrap64 (x3_1 + (((rd_T62 l0 x8_1).f0).length : Int))), (wrap64 (x8_1 + 1)), (by first | rfl | (simp; done) | (simp [*]; done)), (by first | rfl | (simp; done) | (simp [*]; done)), H', ⟨by have := HK1.out; omega⟩, ⟨by repeat (first | (with_reducible first | exact HB.out | apply below_alloc | apply pw_below_drewN | apply below_drew1 | refine below_set ?_ GE102.out) | exact HB.out)⟩⟩
          · rw [if_neg c4] at H
            exact absurd H (by simp)
        · rw [if_neg c3] at H
          exact absurd H (by simp)
      · rw [if_neg c2] at H
        have c2b0 : decide (x8_1 < (l0.length : Int)) = false := decide_eq_false c2
        clear c2
        obtain rfl := Option.some.inj H
        go_wp2
        go_ret
        exact ⟨by first | rfl | (simp [errW_none, errW_some] <;> rfl) | (simp [*, errW_none, errW_some] <;> rfl), by repeat (first | (with_reducible first | exact HB.out | apply below_alloc | apply pw_below_drewN | apply below_drew1) | exact HB.out)⟩
end Go.Proofs.YtfgglniigeagdaaDoor.QD
namespace Go.Proofs.YtfgglniigeagdaaDoor.Cn
set_option linter.unusedSimpArgs false
set_option linter.unusedVariables false
open Go.RowKit Go.Maps Go.Proofs.YtfgglniigeagdaaDoorW.PrintWords Go.Proofs.YtfgglniigeagdaaDoorW.PrintLast Go.Proofs.YtfgglniigeagdaaDoorW.PrintMore Go.Proofs.YtfgglniigeagdaaDoor.QD
/-- Adding never fails where there is room. -/
theorem addTo_room (most : Int) (l : List S62) (gs : List (List S53)) (ids : List Int) (h : manyOf gs + tcount l ≤ most) : ∃ gs' ids', addTo most (gs, ids) l = some (gs', ids') ∧ manyOf gs' ≤ manyOf gs + tcount l ∧ ids'.length = ids.length + tcount l ∧ gs'.length ≤ gs.length + l.length := by
  induction l generalizing gs ids with
  | nil => exact ⟨gs, ids, rfl, by simp [tcount], by simp [tcount], by simp⟩
  | cons r l ih =>
    have ht : tcount (r :: l) = r.f0.length + tcount l := by simp [tcount]
    rw [ht] at h ⊢
    simp only [addTo]
    unfold addStep
    dsimp only
    cases hf : findK gs (ownG ids r) with
    | some p =>
      obtain ⟨gs', ids', h1, h2, h3, h4⟩ := ih gs (ids ++ idsFrom (firstOf gs p) (ownG ids r).length) (by omega)
      refine ⟨gs', ids', h1, by omega, ?_, by simp; omega⟩
      rw [h3, List.length_append, idsFrom_length, ownG_length]
      omega
    | none =>
      dsimp only
      rw [if_neg (by rw [ownG_length]; omega)]
      obtain ⟨gs', ids', h1, h2, h3, h4⟩ := ih (gs ++ [ownG ids r]) (ids ++ idsFrom (manyOf gs) (ownG ids r).length) (by rw [manyOf_snoc, ownG_length]; omega)
      rw [manyOf_snoc, ownG_length] at h2
      rw [List.length_append, idsFrom_length, ownG_length] at h3
      rw [List.length_append, List.length_singleton] at h4
      exact ⟨gs', ids', h1, by omega, by omega, by simp; omega⟩
theorem tcount_drop (l : List S62) (j : Nat) (r : S62) (h : l[j]? = some r) : tcount (l.drop j) = r.f0.length + tcount (l.drop (j + 1)) := by
  obtain ⟨hj, rfl⟩ := List.getElem?_eq_some_iff.1 h
  rw [List.drop_eq_getElem_cons hj]
  unfold tcount
  rw [List.map_cons, List.sum_cons]
theorem step_l0 (m : Nat) (n : Int) (l : List S62) (L j : Int) (h1 : j < L) (h2 : 0 ≤ j) (h3 : j < l.length) : types_Count.l0 (m + 1) n l L j = types_Count.l0 m (wrap64 (n + ((rd_T62 l j).f0.length : Int))) l L (wrap64 (j + 1)) := by
  rw [types_Count.l0, if_pos h1, if_pos h2, if_pos h3]
theorem end_l0 (m : Nat) (n : Int) (l : List S62) (L j : Int) (h1 : ¬ j < L) : types_Count.l0 (m + 1) n l L j = some n := by
  rw [types_Count.l0, if_neg h1]
theorem count_l0 (l : List S62) (L : Nat) (hL : L = l.length) (hl : L ≤ 1099511627776) (m j : Nat) (hm : j + m = L) (n : Int) (h0 : 0 ≤ n) (hn : n + (tcount (l.drop j) : Int) ≤ 2199023255552) : types_Count.l0 (m + 1) n l (L : Int) (j : Int) = some (n + (tcount (l.drop j) : Int)) := by
  induction m generalizing j n with
  | zero =>
    have : j = L := by omega
    subst this
    rw [end_l0 _ _ _ _ _ (Int.lt_irrefl _), hL, List.drop_length]
    simp [tcount]
  | succ m ih =>
    have hlt : j < l.length := by omega
    have hr := rd_RT_at l j hlt
    have hd := tcount_drop l j _ hr
    obtain ⟨q, hq⟩ : ∃ q : Nat, q = (rd_T62 l (j : Int)).f0.length := ⟨_, rfl⟩
    obtain ⟨t1, ht1⟩ : ∃ t1 : Nat, t1 = tcount (l.drop (j + 1)) := ⟨_, rfl⟩
    rw [← hq, ← ht1] at hd
    rw [hd] at hn ⊢
    have e1 : (j : Int) < (L : Int) := by omega
    have e2 : (0 : Int) ≤ (j : Int) := Int.natCast_nonneg j
    have e3 : (j : Int) < (l.length : Int) := by omega
    have e4 : n + (q : Int) + (t1 : Int) = n + ((q + t1 : Nat) : Int) := by omega
    have a1 : j + 1 + m = L := by omega
    have a2 : 0 ≤ n + (q : Int) := by omega
    have a3 : n + (q : Int) + (t1 : Int) ≤ 2199023255552 := by omega
    have w1 : wrap64 (n + (q : Int)) = n + (q : Int) := by unfold wrap64; omega
    have w2 : wrap64 ((j : Int) + 1) = ((j + 1 : Nat) : Int) := by unfold wrap64; omega
    rw [ht1] at a3
    have h3 := ih (j + 1) a1 (n + (q : Int)) a2 a3
    rw [step_l0 (m + 1) n l L j e1 e2 e3, ← hq, w1, w2, h3, ← ht1, e4]
theorem count_eq (l : List S62) (ht : tcount l ≤ 1099511627776) (hl : l.length ≤ 1099511627776) : types_Count.f (l.length + 1) l = some (tcount l : Int) := by
  unfold types_Count.f
  have h := count_l0 l l.length rfl hl l.length 0 (Nat.zero_add _) 0 (Int.le_refl _) (by rw [List.drop_zero]; omega)
  rw [List.drop_zero, Int.zero_add] at h
  exact h
theorem count_calls (A : Option Addr) (c : Nat) (l : List S62) (w : World) (hC : Kd.C k62 w A l.length l) (hc : l.length ≤ c) (ht : tcount l ≤ 1099511627776) (hl : l.length ≤ 1099511627776) :
    Calls Tryd.prog 39 #[.slice A l.length c] w fun e w' => e = .returned (.int .i64 (tcount l : Int)) ∧ Below w.heap.size w w' := types_Count.calls (l.length + 1) A c l _ w hC hc (count_eq l ht hl)
/-- The ids of two lists in a table of their own. -/
noncomputable def oneIds (a b : List S62) : List Int × List Int :=
  match addTo 9223372036854775807 ([], []) a with
  | none => ([], [])
  | some (g1, i1) => match addTo 9223372036854775807 (g1, []) b with
    | none => ([], [])
    | some (g2, i2) => (i1, i2)
open Classical in
/-- What canon.One answers. -/
noncomputable def oneM (a b : List S62) (x y : Int) : Bool × Int :=
  if Clo a ∧ Clo b then
    if 0 ≤ x ∧ x < tcount a ∧ 0 ≤ y ∧ y < tcount b then (rd (oneIds a b).1 x == rd (oneIds a b).2 y, 0) else (false, 1)
  else (false, 50)
end Go.Proofs.YtfgglniigeagdaaDoor.Cn
namespace Go.Proofs.YtfgglniigeagdaaDoor.Cn
set_option linter.unusedSimpArgs false
open Go.RowKit Go.Maps Go.Proofs.YtfgglniigeagdaaDoorW.PrintWords Go.Proofs.YtfgglniigeagdaaDoorW.PrintLast Go.Proofs.YtfgglniigeagdaaDoor.QD
/-- f's texts can be told from what follows them. -/
def Dec {α : Type} (f : α → List UInt8) : Prop := ∀ a b s t, f a ++ s = f b ++ t → a = b ∧ s = t
theorem split_at (x : UInt8) (l1 l2 s t : List UInt8) (h1 : x ∉ l1) (h2 : x ∉ l2) (h : l1 ++ x :: s = l2 ++ x :: t) : l1 = l2 ∧ s = t := by
  induction l1 generalizing l2 with
  | nil =>
    cases l2 with
    | nil => simp at h; exact ⟨rfl, h⟩
    | cons y l2 => simp at h; exact absurd h.1 (fun e => h2 (by simp [e]))
  | cons y l1 ih =>
    cases l2 with
    | nil => simp at h; exact absurd h.1 (fun e => h1 (by simp [e]))
    | cons z l2 =>
      simp at h
      obtain ⟨rfl, h⟩ := h
      obtain ⟨rfl, rfl⟩ := ih l2 (fun hm => h1 (by simp [hm])) (fun hm => h2 (by simp [hm])) h
      exact ⟨rfl, rfl⟩
def valD (l : List UInt8) : Nat := l.foldl (fun n c => 10 * n + (c.toNat - 48)) 0
theorem digit_toNat (d : Nat) (h : d < 10) : (UInt8.ofNat (48 + d)).toNat = 48 + d := by
  rw [UInt8.toNat_ofNat']
  omega
theorem valD_dec (u : Nat) : valD (Lib.decDigits u) = u := by
  induction u using Nat.strongRecOn with
  | ind u ih =>
    rw [Lib.decDigits]
    split
    · rename_i h
      simp only [valD, List.foldl_cons, List.foldl_nil]
      rw [digit_toNat u h]
      omega
    · rename_i h
      have h1 := ih (u / 10) (by omega)
      unfold valD at h1 ⊢
      rw [List.foldl_append, h1]
      simp only [List.foldl_cons, List.foldl_nil]
      rw [digit_toNat (u % 10) (by omega)]
      omega
theorem dec_digit (u : Nat) : ∀ c ∈ Lib.decDigits u, 48 ≤ c.toNat ∧ c.toNat ≤ 57 := by
  induction u using Nat.strongRecOn with
  | ind u ih =>
    rw [Lib.decDigits]
    split
    · rename_i h
      intro c hc
      rw [List.mem_singleton.1 hc, digit_toNat u h]
      omega
    · rename_i h
      intro c hc
      rcases List.mem_append.1 hc with hc | hc
      · exact ih (u / 10) (by omega) c hc
      · rw [List.mem_singleton.1 hc, digit_toNat (u % 10) (by omega)]
        omega
theorem dec_ne (u : Nat) : ∃ c l, Lib.decDigits u = c :: l ∧ 48 ≤ c.toNat := by
  have h := Lib.decDigits_length u
  have h1 := Lib.nDigits_pos u
  cases e : Lib.decDigits u with
  | nil => rw [e] at h; simp at h; omega
  | cons c l => exact ⟨c, l, rfl, (dec_digit u c (by rw [e]; simp)).1⟩
theorem itoa_no (i : Int) (x : UInt8) (hx : x.toNat < 45) : x ∉ Lib.itoa i := by
  intro h
  unfold Lib.itoa at h
  split at h
  · rcases List.mem_cons.1 h with h | h
    · subst h; revert hx; decide
    · have := dec_digit _ _ h; omega
  · have := dec_digit _ _ h; omega
theorem itoa_inj (i j : Int) (h : Lib.itoa i = Lib.itoa j) : i = j := by
  unfold Lib.itoa at h
  split at h <;> split at h
  · injection h with _ h
    have := congrArg valD h
    rw [valD_dec, valD_dec] at this
    omega
  · obtain ⟨c, l, e, hc⟩ := dec_ne j.toNat
    rw [e] at h
    injection h with h _
    subst h
    exact absurd hc (by decide)
  · obtain ⟨c, l, e, hc⟩ := dec_ne i.toNat
    rw [e] at h
    injection h with h _
    subst h
    exact absurd hc (by decide)
  · have := congrArg valD h
    rw [valD_dec, valD_dec] at this
    omega
theorem itoa_head (i : Int) : ∃ c l, Lib.itoa i = c :: l ∧ c ≠ 43 := by
  unfold Lib.itoa
  split
  · exact ⟨45, _, rfl, by decide⟩
  · obtain ⟨c, l, e, hc⟩ := dec_ne i.toNat
    exact ⟨c, l, e, by rintro rfl; revert hc; decide⟩
theorem dec_num : Dec numT := by
  intro a b s t h
  simp only [numT, List.append_assoc, List.cons_append, List.nil_append] at h
  obtain ⟨h1, h2⟩ := split_at 32 _ _ _ _ (itoa_no a 32 (by decide)) (itoa_no b 32 (by decide)) h
  exact ⟨itoa_inj a b h1, h2⟩
theorem dec_flagnum (a b : Bool) (i j : Int) (s t : List UInt8) (h : flagT a ++ (numT i ++ s) = flagT b ++ (numT j ++ t)) : a = b ∧ i = j ∧ s = t := by
  obtain ⟨c, l, e, hc⟩ := itoa_head i
  obtain ⟨c', l', e', hc'⟩ := itoa_head j
  cases a <;> cases b
  · obtain ⟨h1, h2⟩ := dec_num _ _ _ _ h
    exact ⟨rfl, h1, h2⟩
  · simp only [flagT, numT, e, List.cons_append, List.nil_append] at h
    injection h with h _
    exact absurd h hc
  · simp only [flagT, numT, e', List.cons_append, List.nil_append] at h
    injection h with h _
    exact absurd h.symm hc'
  · simp only [flagT, List.cons_append, List.nil_append] at h
    injection h with _ h
    obtain ⟨h1, h2⟩ := dec_num _ _ _ _ h
    exact ⟨rfl, h1, h2⟩
theorem dec_val : Dec valT := by
  intro a b s t h
  simp only [valT, List.append_assoc] at h
  obtain ⟨h1, h⟩ := dec_num _ _ _ _ h
  obtain ⟨h2, h3, h4⟩ := dec_flagnum _ _ _ _ _ _ h
  refine ⟨?_, h4⟩
  obtain ⟨a0, a1, a2⟩ := a
  obtain ⟨b0, b1, b2⟩ := b
  simp only at h1 h2 h3
  subst h1 h2 h3
  rfl
theorem dec_field : Dec fieldT := by
  intro a b s t h
  simp only [fieldT, valT, List.append_assoc] at h
  obtain ⟨h1, h2, h⟩ := dec_flagnum _ _ _ _ _ _ h
  obtain ⟨h3, h4, h5⟩ := dec_flagnum _ _ _ _ _ _ h
  refine ⟨?_, h5⟩
  obtain ⟨⟨a0, a1, a2⟩, a3⟩ := a
  obtain ⟨⟨b0, b1, b2⟩, b3⟩ := b
  simp only at h1 h2 h3 h4
  subst h1 h2 h3 h4
  rfl
theorem dec_list {α : Type} (g : α → List UInt8) (hg : Dec g) (l m : List α) (hl : l.length = m.length) (s t : List UInt8) (h : l.flatMap g ++ s = m.flatMap g ++ t) : l = m ∧ s = t := by
  induction l generalizing m with
  | nil =>
    cases m with
    | nil => exact ⟨rfl, by simpa using h⟩
    | cons y m => simp at hl
  | cons x l ih =>
    cases m with
    | nil => simp at hl
    | cons y m =>
      simp only [List.flatMap_cons, List.append_assoc] at h
      obtain ⟨e1, h1⟩ := hg _ _ _ _ h
      obtain ⟨e2, h2⟩ := ih m (by simpa using hl) h1
      exact ⟨by rw [e1, e2], h2⟩
theorem dec_nlist {α : Type} (g : α → List UInt8) (hg : Dec g) (l m : List α) (s t : List UInt8) (h : numT l.length ++ (l.flatMap g ++ s) = numT m.length ++ (m.flatMap g ++ t)) : l = m ∧ s = t := by
  obtain ⟨h1, h⟩ := dec_num _ _ _ _ h
  exact dec_list g hg l m (by omega) s t h
theorem dec_sub : Dec subT := by
  intro a b s t h
  simp only [subT, List.append_assoc] at h
  obtain ⟨h0, hn, h⟩ := dec_flagnum _ _ _ _ _ _ h
  obtain ⟨h1, h⟩ := dec_list numT dec_num _ _ (by omega) _ _ h
  obtain ⟨h2, h⟩ := dec_num _ _ _ _ h
  obtain ⟨h3, h⟩ := dec_nlist valT dec_val _ _ _ _ h
  obtain ⟨h4, h⟩ := dec_nlist valT dec_val _ _ _ _ h
  obtain ⟨h5, h⟩ := dec_nlist fieldT dec_field _ _ _ _ h
  refine ⟨?_, h⟩
  obtain ⟨a0, a1, ⟨a2, a3, a4, a5⟩⟩ := a
  obtain ⟨b0, b1, ⟨b2, b3, b4, b5⟩⟩ := b
  simp only at h0 h1 h2 h3 h4 h5
  subst h0 h1 h2 h3 h4 h5
  rfl
theorem subT_ne (s : S53) : subT s ≠ [] := by
  obtain ⟨c, l, e, _⟩ := itoa_head s.f1.length
  intro h
  have := congrArg List.length h
  simp [subT, numT, e] at this
theorem keyT_inj (l m : List S53) (h : keyT l = keyT m) : l = m := by
  induction l generalizing m with
  | nil =>
    cases m with
    | nil => rfl
    | cons y m =>
      simp only [keyT, List.flatMap_nil, List.flatMap_cons] at h
      have := List.append_eq_nil_iff.1 h.symm
      exact absurd this.1 (subT_ne y)
  | cons x l ih =>
    cases m with
    | nil =>
      simp only [keyT, List.flatMap_nil, List.flatMap_cons] at h
      have := List.append_eq_nil_iff.1 h
      exact absurd this.1 (subT_ne x)
    | cons y m =>
      simp only [keyT, List.flatMap_cons] at h
      obtain ⟨e1, h1⟩ := dec_sub _ _ _ _ h
      rw [e1, ih m h1]
end Go.Proofs.YtfgglniigeagdaaDoor.Cn
namespace Go.Proofs.YtfgglniigeagdaaDoor.Cn
set_option linter.unusedSimpArgs false
set_option linter.unusedVariables false
open Go.RowKit Go.Maps Go.Proofs.YtfgglniigeagdaaDoorW.PrintWords Go.Proofs.YtfgglniigeagdaaDoorW.PrintLast Go.Proofs.YtfgglniigeagdaaDoorW.PrintMore Go.Proofs.YtfgglniigeagdaaDoor.QD
/-- No two groups are one. -/
def Dist (gs : List (List S53)) : Prop := ∀ (i j : Nat) (x : List S53), gs[i]? = some x → gs[j]? = some x → i = j
theorem Dist.nil : Dist [] := fun i j x h => by simp at h
theorem Dist.snoc {gs : List (List S53)} {o : List S53} (h : Dist gs) (hn : ∀ x ∈ gs, x ≠ o) : Dist (gs ++ [o]) := by
  intro i j x hi hj
  have key : ∀ (i : Nat), (gs ++ [o])[i]? = some x → (gs[i]? = some x) ∨ (i = gs.length ∧ x = o) := by
    intro i hi
    rcases Nat.lt_or_ge i gs.length with h1 | h1
    · rw [List.getElem?_append_left h1] at hi; exact .inl hi
    · rw [List.getElem?_append_right h1] at hi
      have h2 := (List.getElem?_eq_some_iff.1 hi).1
      simp at h2
      have h3 : i = gs.length := by omega
      subst h3
      simp at hi
      exact .inr ⟨rfl, hi.symm⟩
  rcases key i hi with h1 | ⟨h1, e1⟩ <;> rcases key j hj with h2 | ⟨h2, e2⟩
  · exact h i j x h1 h2
  · exact absurd e2 (hn x (List.mem_of_getElem? h1))
  · exact absurd e1 (hn x (List.mem_of_getElem? h2))
  · omega
theorem firstOf_append (gs t : List (List S53)) (i : Nat) (h : i ≤ gs.length) : firstOf (gs ++ t) i = firstOf gs i := by
  unfold firstOf
  rw [List.take_append_of_le_length h]
theorem firstOf_length (gs : List (List S53)) : firstOf gs gs.length = manyOf gs := by unfold firstOf; rw [List.take_length]
theorem idsFrom_get (n : Int) (k o : Nat) (h : o < k) : (idsFrom n k)[o]? = some (n + o) := by
  unfold idsFrom
  rw [List.getElem?_map, List.getElem?_range h]
  rfl
/-- What adding a group comes to. -/
theorem addStep_char {most : Int} {gs0 gs' : List (List S53)} {ids0 ids' : List Int} {r : S62} (h : addStep most (gs0, ids0) r = some (gs', ids')) (hd : Dist gs0) :
    Dist gs' ∧ (∃ t, gs' = gs0 ++ t) ∧ ∃ idx, gs'[idx]? = some (ownG ids0 r) ∧ ids' = ids0 ++ idsFrom (firstOf gs' idx) r.f0.length := by
  unfold addStep at h
  dsimp only at h
  cases hf : findK gs0 (ownG ids0 r) with
  | some i =>
    rw [hf] at h
    simp only [Option.some.injEq, Prod.mk.injEq] at h
    obtain ⟨rfl, rfl⟩ := h
    obtain ⟨x, hx, hk⟩ := findK_some hf
    have := keyT_inj _ _ hk
    subst this
    exact ⟨hd, ⟨[], by simp⟩, i, hx, by rw [ownG_length]⟩
  | none =>
    rw [hf] at h
    dsimp only at h
    split at h
    · cases h
    · simp only [Option.some.injEq, Prod.mk.injEq] at h
      obtain ⟨rfl, rfl⟩ := h
      have hn := findK_none hf
      refine ⟨hd.snoc (fun x hx e => hn x hx (by rw [e])), ⟨_, rfl⟩, gs0.length, by simp, ?_⟩
      rw [firstOf_append _ _ _ (Nat.le_refl _), firstOf_length, ownG_length]
/-- What adding comes to. -/
theorem addTo_char (most : Int) (l : List S62) : ∀ (gs0 gs' : List (List S53)) (ids0 ids' : List Int), addTo most (gs0, ids0) l = some (gs', ids') → Dist gs0 →
    Dist gs' ∧ (∃ t, gs' = gs0 ++ t) ∧ (∃ t, ids' = ids0 ++ t ∧ t.length = tcount l) ∧
    ∀ (j : Nat) (r : S62), l[j]? = some r → ∃ idx, gs'[idx]? = some (ownG (ids'.take (ids0.length + tcount (l.take j))) r) ∧ ∀ o, o < r.f0.length → ids'[ids0.length + tcount (l.take j) + o]? = some (firstOf gs' idx + o) := by
  induction l with
  | nil =>
    intro gs0 gs' ids0 ids' h hd
    simp only [addTo, Option.some.injEq, Prod.mk.injEq] at h
    obtain ⟨rfl, rfl⟩ := h
    exact ⟨hd, ⟨[], by simp⟩, ⟨[], by simp, by simp [tcount]⟩, fun j r hj => by simp at hj⟩
  | cons r l ih =>
    intro gs0 gs' ids0 ids' h hd
    simp only [addTo] at h
    cases hs : addStep most (gs0, ids0) r with
    | none => rw [hs] at h; cases h
    | some st =>
      obtain ⟨gs1, ids1⟩ := st
      rw [hs] at h
      simp only [Option.bind_some] at h
      obtain ⟨hd1, ⟨t1, ht1⟩, idx, hx, hi⟩ := addStep_char hs hd
      obtain ⟨hd2, ⟨t2, ht2⟩, ⟨u, hu, hul⟩, hall⟩ := ih gs1 gs' ids1 ids' h hd1
      have hl1 : ids1.length = ids0.length + r.f0.length := by rw [hi, List.length_append, idsFrom_length]
      refine ⟨hd2, ⟨t1 ++ t2, by rw [ht2, ht1, List.append_assoc]⟩, ⟨idsFrom (firstOf gs1 idx) r.f0.length ++ u, by rw [hu, hi, List.append_assoc], ?_⟩, ?_⟩
      · rw [List.length_append, idsFrom_length, hul]; simp [tcount]
      · intro j q hj
        cases j with
        | zero =>
          simp at hj
          subst hj
          have hidx : idx < gs1.length := (List.getElem?_eq_some_iff.1 hx).1
          refine ⟨idx, ?_, fun o ho => ?_⟩
          · have e : ids'.take (ids0.length + tcount ((r :: l).take 0)) = ids0 := by
              rw [hu, hi, List.append_assoc]
              simp [tcount]
            rw [e, ht2, List.getElem?_append_left hidx]
            exact hx
          · have e : ids0.length + tcount ((r :: l).take 0) + o = ids0.length + o := by simp [tcount]
            rw [e, hu, hi, List.append_assoc, List.getElem?_append_right (by omega), List.getElem?_append_left (by rw [idsFrom_length]; omega)]
            have e2 : ids0.length + o - ids0.length = o := by omega
            rw [e2, idsFrom_get _ _ _ ho, ht2, firstOf_append _ _ _ (Nat.le_of_lt hidx)]
        | succ j =>
          rw [List.getElem?_cons_succ] at hj
          obtain ⟨idx', h1, h2⟩ := hall j q hj
          have e : ids1.length + tcount (l.take j) = ids0.length + tcount ((r :: l).take (j + 1)) := by
            rw [hl1, List.take_succ_cons]
            simp [tcount]
            omega
          rw [e] at h1 h2
          exact ⟨idx', h1, h2⟩
/-- Adding a list again: the same ids, and nothing new. -/
theorem addTo_again (most m : Int) (l : List S62) (gs0 gs' : List (List S53)) (ids : List Int) (h : addTo most (gs0, []) l = some (gs', ids)) (hd : Dist gs0) : addTo m (gs', []) l = some (gs', ids) := by
  obtain ⟨hd', _, ⟨t, ht, htl⟩, hall⟩ := addTo_char most l gs0 gs' [] ids h hd
  rw [List.nil_append] at ht
  subst ht
  have key : ∀ k, k ≤ l.length → addTo m (gs', []) (l.take k) = some (gs', ids.take (tcount (l.take k))) := by
    intro k
    induction k with
    | zero => intro _; simp [addTo, tcount]
    | succ k ih =>
      intro hk
      have hr : l[k]? = some l[k] := List.getElem?_eq_getElem (by omega)
      rw [addTo_take m _ l k _ hr, ih (by omega)]
      simp only [Option.bind_some]
      obtain ⟨idx, h1, h2⟩ := hall k _ hr
      simp only [List.length_nil, Nat.zero_add] at h1 h2
      unfold addStep
      dsimp only
      cases hf : findK gs' (ownG (ids.take (tcount (l.take k))) l[k]) with
      | none => exact absurd rfl (findK_none hf _ (List.mem_of_getElem? h1))
      | some i =>
        obtain ⟨x, hx, hkx⟩ := findK_some hf
        have := keyT_inj _ _ hkx
        subst this
        have hi := hd' i idx _ hx h1
        subst hi
        dsimp only
        congr 2
        have htk := tcount_take l k _ hr
        have hle := tcount_take_le l k _ hr
        rw [htk, ownG_length]
        apply List.ext_getElem?
        intro p
        rcases Nat.lt_or_ge p (tcount (l.take k)) with hp | hp
        · rw [List.getElem?_append_left (by rw [List.length_take]; omega), List.getElem?_take_of_lt hp, List.getElem?_take_of_lt (by omega)]
        · rw [List.getElem?_append_right (by rw [List.length_take]; omega)]
          have e : (ids.take (tcount (l.take k))).length = tcount (l.take k) := by rw [List.length_take]; omega
          rw [e]
          rcases Nat.lt_or_ge (p - tcount (l.take k)) l[k].f0.length with ho | ho
          · rw [idsFrom_get _ _ _ ho, List.getElem?_take_of_lt (by omega)]
            have := h2 _ ho
            have e2 : tcount (l.take k) + (p - tcount (l.take k)) = p := by omega
            rw [e2] at this
            exact this.symm
          · rw [List.getElem?_eq_none (by rw [idsFrom_length]; omega), List.getElem?_eq_none (by rw [List.length_take]; omega)]
  have := key l.length (Nat.le_refl _)
  rw [List.take_length] at this
  rw [this, ← htl, List.take_length]
/-- All numbers of a type, as Q says. -/
structure TQ (Q : Int → Prop) (s : S53) : Prop where
  q1 : ∀ h ∈ s.f1, Q h
  q2 : ∀ v ∈ s.f2.f1, v.f0 = 5 → Q v.f2
  q3 : ∀ v ∈ s.f2.f2, v.f0 = 5 → Q v.f2
  q4 : ∀ v ∈ s.f2.f3, v.f0.f0 = 5 → Q v.f0.f2
theorem okF_true (en : Int) (b : Bool) (h : Int) : okF en b h = true ↔ b = true ∧ (-12 ≤ h ∧ h < en) := by
  simp [okF]
  constructor
  · rintro ⟨⟨h1, h2⟩, h3⟩; exact ⟨h1, h3, h2⟩
  · rintro ⟨h1, h3, h2⟩; exact ⟨⟨h1, h2⟩, h3⟩
theorem okS_ints (en : Int) (b : Bool) (l : List Int) : (foldm (okS en) b l).1 = true ↔ b = true ∧ ∀ h ∈ l, -12 ≤ h ∧ h < en := by
  induction l generalizing b with
  | nil => simp [foldm]
  | cons x l ih =>
    simp only [foldm, ih, okS, okF_true, List.mem_cons, forall_eq_or_imp, and_assoc]
theorem okS_vals (en : Int) (b : Bool) (l : List S74) : (foldm (tval (okS en)) b l).1 = true ↔ b = true ∧ ∀ v ∈ l, v.f0 = 5 → -12 ≤ v.f2 ∧ v.f2 < en := by
  induction l generalizing b with
  | nil => simp [foldm]
  | cons x l ih =>
    have e : (tval (okS en) b x).1 = true ↔ b = true ∧ (x.f0 = 5 → -12 ≤ x.f2 ∧ x.f2 < en) := by
      unfold tval
      by_cases h : x.f0 = 5
      · simp only [h, if_true, okS, okF_true, true_implies]
      · simp [h]
    simp only [foldm, ih, e, List.mem_cons, forall_eq_or_imp, and_assoc]
theorem okS_fields (en : Int) (b : Bool) (l : List S118) : (foldm (tfield (okS en)) b l).1 = true ↔ b = true ∧ ∀ v ∈ l, v.f0.f0 = 5 → -12 ≤ v.f0.f2 ∧ v.f0.f2 < en := by
  induction l generalizing b with
  | nil => simp [foldm]
  | cons x l ih =>
    have e : (tfield (okS en) b x).1 = true ↔ b = true ∧ (x.f0.f0 = 5 → -12 ≤ x.f0.f2 ∧ x.f0.f2 < en) := by
      unfold tfield tval
      by_cases h : x.f0.f0 = 5
      · simp only [h, if_true, okS, okF_true, true_implies]
      · simp [h]
    simp only [foldm, ih, e, List.mem_cons, forall_eq_or_imp, and_assoc]
theorem typeOk_iff (en : Int) (s : S53) : typeOk en s = true ↔ (∀ h ∈ s.f1, 0 ≤ h) ∧ TQ (fun h => -12 ≤ h ∧ h < en) s := by
  unfold typeOk tsub
  dsimp only
  rw [okS_fields, okS_vals, okS_vals, okS_ints]
  have e : supOk s.f1 = true ↔ ∀ h ∈ s.f1, 0 ≤ h := by simp [supOk]
  rw [e]
  constructor
  · rintro ⟨⟨⟨⟨h0, h1⟩, h2⟩, h3⟩, h4⟩; exact ⟨h0, h1, h2, h3, h4⟩
  · rintro ⟨h0, h1, h2, h3, h4⟩; exact ⟨⟨⟨⟨h0, h1⟩, h2⟩, h3⟩, h4⟩
theorem Clo.tq {l : List S62} (h : Clo l) {j : Nat} {r : S62} (hr : l[j]? = some r) {s : S53} (hs : s ∈ r.f0) : TQ (fun x => -12 ≤ x ∧ x < (tcount (l.take (j + 1)) : Nat)) s := ((typeOk_iff _ _).1 (h j r hr s hs)).2
theorem rd_eq (l : List Int) (x : Int) (v : Int) (h : l[x.toNat]? = some v) : rd l x = v := by
  unfold rd
  rw [List.getD_eq_getElem?_getD, h]
  rfl
theorem tcount_mono (l : List S62) (i j : Nat) (h : i ≤ j) : tcount (l.take i) ≤ tcount (l.take j) := by
  have e : l.take j = l.take i ++ (l.take j).drop i := by
    have := (List.take_append_drop i (l.take j)).symm
    rw [List.take_take, Nat.min_eq_left h] at this
    exact this
  rw [e]
  simp [tcount]
end Go.Proofs.YtfgglniigeagdaaDoor.Cn
namespace Go.Proofs.YtfgglniigeagdaaDoor.Cn
set_option linter.unusedSimpArgs false
set_option linter.unusedVariables false
open Go.RowKit Go.Maps Go.Proofs.YtfgglniigeagdaaDoorW.PrintWords Go.Proofs.YtfgglniigeagdaaDoorW.PrintLast Go.Proofs.YtfgglniigeagdaaDoor.QD Go.Proofs.YtfgglniigeagdaaDoor.Opb
theorem N64_of_wf {x : Int} (h : (Lit.int .i64 x).wf = true) : N64 x := by
  simp only [Lit.wf, Bool.and_eq_true, decide_eq_true_eq] at h
  exact h
theorem opbInt : Opb Tryd.prog 3 (Kd.int .i64) N64 (fun _ => 1) := (Opb.int Tryd.underlying3 (by kernel_rfl)).imp (fun _ h => N64_of_wf h) (fun _ => Nat.le_refl _)
theorem opbVT : Opb Tryd.prog 74 k74 (fun v => N64 v.f0 ∧ N64 v.f2) (fun _ => 1) :=
  (Opb.iso (Opb.struct Tryd.underlying74 (by kernel_rfl) (OpbF.cons opbInt rfl rfl (OpbF.cons (Opb.bool Tryd.underlying4 (by kernel_rfl)) rfl rfl (OpbF.last opbInt rfl)))) (fun x : S74 => (x.f0, x.f1, x.f2)) (fun x => ⟨x.1, x.2.1, x.2.2⟩) (fun _ => rfl)).imp (fun _ h => ⟨h.1, h.2.2⟩) (fun _ => by omega)
theorem opbFT : Opb Tryd.prog 118 k118 (fun v => N64 v.f0.f0 ∧ N64 v.f0.f2) (fun _ => 1) :=
  (Opb.iso (Opb.struct Tryd.underlying118 (by kernel_rfl) (OpbF.cons opbVT rfl rfl (OpbF.last (Opb.bool Tryd.underlying4 (by kernel_rfl)) rfl))) (fun x : S118 => (x.f0, x.f1)) (fun x => ⟨x.1, x.2⟩) (fun _ => rfl)).imp (fun _ h => h.1) (fun _ => by omega)
theorem sum_ones {α : Type} (l : List α) : (l.map fun _ => 1).sum = l.length := by
  induction l with
  | nil => rfl
  | cons x l ih => simp only [List.map_cons, List.sum_cons, ih, List.length_cons]; omega
theorem opbInts : Opb Tryd.prog 37 (Kd.slice 3 (Kd.int .i64)) (fun xs => ∀ x ∈ xs, N64 x) (fun xs => xs.length) := (Opb.slice Tryd.underlying37 (by kernel_rfl) opbInt).imp (fun _ h => h) (fun _ => by rw [sum_ones]; omega)
theorem opbVTs : Opb Tryd.prog 48 (Kd.slice 74 k74) (fun xs => ∀ v ∈ xs, N64 v.f0 ∧ N64 v.f2) (fun xs => xs.length) := (Opb.slice Tryd.underlying48 (by kernel_rfl) opbVT).imp (fun _ h => h) (fun _ => by rw [sum_ones]; omega)
theorem opbFTs : Opb Tryd.prog 49 (Kd.slice 118 k118) (fun xs => ∀ v ∈ xs, N64 v.f0.f0 ∧ N64 v.f0.f2) (fun xs => xs.length) := (Opb.slice Tryd.underlying49 (by kernel_rfl) opbFT).imp (fun _ h => h) (fun _ => by rw [sum_ones]; omega)
/-- A composite type that came in. -/
structure CIn (c : S51) : Prop where
  k : N64 c.f0
  p : ∀ v ∈ c.f1, N64 v.f0 ∧ N64 v.f2
  r : ∀ v ∈ c.f2, N64 v.f0 ∧ N64 v.f2
  f : ∀ v ∈ c.f3, N64 v.f0.f0 ∧ N64 v.f0.f2
def wC (c : S51) : Nat := c.f1.length + c.f2.length + c.f3.length + 1
theorem opbCT : Opb Tryd.prog 51 k51 CIn wC :=
  (Opb.iso (Opb.struct Tryd.underlying51 (by kernel_rfl) (OpbF.cons opbInt rfl rfl (OpbF.cons opbVTs rfl rfl (OpbF.cons opbVTs rfl rfl (OpbF.last opbFTs rfl))))) (fun x : S51 => (x.f0, x.f1, x.f2, x.f3)) (fun x => ⟨x.1, x.2.1, x.2.2.1, x.2.2.2⟩) (fun _ => rfl)).imp (fun _ h => ⟨h.1, h.2.1, h.2.2.1, h.2.2.2⟩) (fun _ => by unfold wC; dsimp only; omega)
/-- A type that came in. -/
structure SIn (s : S53) : Prop where
  u : ∀ x ∈ s.f1, N64 x
  c : CIn s.f2
theorem opbST : Opb Tryd.prog 53 k53 SIn wS :=
  (Opb.iso (Opb.struct Tryd.underlying53 (by kernel_rfl) (OpbF.cons (Opb.bool Tryd.underlying4 (by kernel_rfl)) rfl rfl (OpbF.cons opbInts rfl rfl (OpbF.last opbCT rfl)))) (fun x : S53 => (x.f0, x.f1, x.f2)) (fun x => ⟨x.1, x.2.1, x.2.2⟩) (fun _ => rfl)).imp (fun _ h => ⟨h.2.1, h.2.2⟩) (fun _ => by unfold wS wC; dsimp only; omega)
theorem opbSTs : Opb Tryd.prog 60 (Kd.slice 53 k53) (fun xs => ∀ s ∈ xs, SIn s) (fun xs => wG xs) := (Opb.slice Tryd.underlying60 (by kernel_rfl) opbST).imp (fun _ h => h) (fun _ => by unfold wG; omega)
/-- A group that came in. -/
def GIn (r : S62) : Prop := ∀ s ∈ r.f0, SIn s
theorem opbRT : Opb Tryd.prog 62 k62 GIn (fun r => wG r.f0 + 1) :=
  (Opb.iso (Opb.struct Tryd.underlying62 (by kernel_rfl) (OpbF.cons opbSTs rfl rfl (OpbF.last (Opb.bool Tryd.underlying4 (by kernel_rfl)) rfl))) (fun x : S62 => (x.f0, x.f1)) (fun x => ⟨x.1, x.2⟩) (fun _ => rfl)).imp (fun _ h => h.1) (fun _ => by dsimp only; omega)
def LIn (l : List S62) : Prop := ∀ r ∈ l, GIn r
theorem wG_le_wL {l : List S62} {r : S62} (h : r ∈ l) : wG r.f0 ≤ wL l := sum_le_mem (fun r => wG r.f0) l r h
theorem wS_le_wG {l : List S53} {s : S53} (h : s ∈ l) : wS s ≤ wG l := sum_le_mem wS l s h
/-- The lists of a type are no longer than they can be. -/
theorem sok_of_w {s : S53} (h : wS s ≤ 1048576) : SOk (fun _ => True) s := by
  unfold wS at h
  exact ⟨fun _ _ => trivial, fun _ _ _ => trivial, fun _ _ _ => trivial, fun _ _ _ => trivial, by omega, by omega, by omega, by omega⟩
theorem sok_all {l : List S62} (h : wL l ≤ 1048576) : ∀ r ∈ l, ∀ s ∈ r.f0, SOk (fun _ => True) s := fun r hr s hs => sok_of_w (Nat.le_trans (wS_le_wG hs) (Nat.le_trans (wG_le_wL hr) h))
theorem rin_all {l : List S62} (h : wL l ≤ 1048576) (hi : LIn l) (hc : Clo l) : ∀ r ∈ l, ∀ s ∈ r.f0, RIn s := by
  intro r hr s hs
  obtain ⟨j, hj, rfl⟩ := List.getElem_of_mem hr
  have t := hc.tq (List.getElem?_eq_getElem hj) hs
  have hb : tcount (l.take (j + 1)) ≤ 1048576 := by
    have h1 := tcount_mono l (j + 1) l.length (by omega)
    rw [List.take_length] at h1
    have h2 := tcount_le_wL l
    omega
  have k := hi _ hr s hs
  have q : ∀ x : Int, (-12 ≤ x ∧ x < (tcount (l.take (j + 1)) : Nat)) → RollQ x := fun x hx => ⟨by omega, by omega⟩
  have o := sok_all h _ hr s hs
  refine ⟨⟨fun x hx => q x (t.q1 x hx), fun v hv e => q _ (t.q2 v hv e), fun v hv e => q _ (t.q3 v hv e), fun v hv e => q _ (t.q4 v hv e), o.l1, o.l2, o.l3, o.l4⟩, k.c.k, fun v hv => (k.c.p v hv).1, fun v hv => (k.c.r v hv).1, fun v hv => (k.c.f v hv).1⟩
/-- A list of groups that the walk may read: at A, of capacity c. -/
structure LA (w : World) (A : Option Addr) (c : Nat) (l : List S62) : Prop where
  C : Kd.C k62 w A l.length l
  cap : l.length ≤ c
  inn : LIn l
  w : wL l + l.length ≤ 1048576
theorem LA.below {w w' : World} {A : Option Addr} {c : Nat} {l : List S62} (h : LA w A c l) (hb : Below w.heap.size w w') : LA w' A c l := ⟨Kd.C_below h.C hb, h.cap, h.inn, h.w⟩
end Go.Proofs.YtfgglniigeagdaaDoor.Cn
namespace Go.Proofs.YtfgglniigeagdaaDoor.Cn
set_option linter.unusedSimpArgs false
set_option linter.unusedVariables false
open Go.RowKit Go.Maps Go.Proofs.YtfgglniigeagdaaDoorW.PrintWords Go.Proofs.YtfgglniigeagdaaDoorW.PrintLast Go.Proofs.YtfgglniigeagdaaDoorW.PrintMore Go.Proofs.YtfgglniigeagdaaDoor.QD
/-- A number of a group's own types into a mark. -/
def rlF (n : Int) (b : Bool) (h : Int) : Bool × Int := if h < 0 then (b, h) else (b && decide (h < n), -100 - h)
/-- A mark into a number of a group's own types. -/
def urF (n first : Int) (b : Bool) (h : Int) : Bool × Int := if -100 < h then (b, h) else (b && decide (-100 - h < n), first + -100 - h)
structure RlSt (okb fb lb gb : Nat) (A : Option Addr) (c n : Nat) (win : World) (b : Bool) (W : World) : Prop where
  ok : W.heap[okb]? = some (.cells #[.bool b] 4 (0, 0))
  fi : W.heap[fb]? = some (.cells #[.int .i64 0] 3 (0, 0))
  li : W.heap[lb]? = some (.cells #[.slice A n c] 22 (0, 0))
  gi : W.heap[gb]? = some (.cells #[.int .i64 0] 3 (0, 0))
  bel : Below win.heap.size win W
structure Ne3 (a b c d : Nat) : Prop where
  h1 : a ≠ b
  h2 : a ≠ c
  h3 : a ≠ d
theorem RlSt.set {okb fb lb gb : Nat} {A : Option Addr} {c n : Nat} {win W : World} {b : Bool} (h : RlSt okb fb lb gb A c n win b W) (hne : Ne3 okb fb lb gb) (hz : win.heap.size ≤ okb) (b' : Bool) : RlSt okb fb lb gb A c n win b' (W.setCell ⟨okb, 0, none⟩ (.bool b')) :=
  ⟨by have := blk_set h.ok 0 (.bool b'); simpa using this, blk_far h.fi (Ne.symm hne.h1) _, blk_far h.li (Ne.symm hne.h2) _, blk_far h.gi (Ne.symm hne.h3) _, h.bel.trans ((Below.refl _ _).setCell hz _)⟩
theorem RlSt.drew {okb fb lb gb : Nat} {A : Option Addr} {c n : Nat} {win W : World} {b : Bool} (h : RlSt okb fb lb gb A c n win b W) : RlSt okb fb lb gb A c n win b W.drew := ⟨h.ok, h.fi, h.li, h.gi, h.bel.drew⟩
theorem grown_set (W : World) (g : Nat) (u : Value) : W.grownBy (W.setCell ⟨g, 0, none⟩ u).drew (some g) := ⟨rfl, rfl, rfl, by show W.heap.size ≤ (W.setCell ⟨g, 0, none⟩ u).heap.size; simp, fun i _ hi => Below.heap_setCell W ⟨g, 0, none⟩ u i (by rintro rfl; exact hi rfl)⟩
theorem grown_set' (W : World) (g : Nat) (u : Value) : W.grownBy (W.setCell ⟨g, 0, none⟩ u) (some g) := ⟨rfl, rfl, rfl, by simp, fun i _ hi => Below.heap_setCell W ⟨g, 0, none⟩ u i (by rintro rfl; exact hi rfl)⟩
set_option maxRecDepth 100000 in
theorem rollT_calls (okb fb lb gb : Nat) (hne : Ne3 okb fb lb gb) (A : Option Addr) (c : Nat) (l : List S62) (r : S62) (hr : l[0]? = some r) (hn : r.f0.length ≤ 1048576) (win : World) (hC : Kd.C k62 win A l.length l) (hz : win.heap.size ≤ okb) (b : Bool) (h : Int) (hq : RollQ h) (w : World) (hs : RlSt okb fb lb gb A c l.length win b w) :
    Calls Tryd.prog 50 #[.int .i64 h, .pointer (some ⟨fb, 0, none⟩), .pointer (some ⟨okb, 0, none⟩), .pointer (some ⟨lb, 0, none⟩), .pointer (some ⟨gb, 0, none⟩)] w fun e w' => e = .returned (.int .i64 (rlF r.f0.length b h).2) ∧ RlSt okb fb lb gb A c l.length win (rlF r.f0.length b h).1 w' ∧ w.grownBy w' (some okb) := by
  have c0 : w.cell? ⟨okb, 0, none⟩ = some (.bool b) := (blk_cell hs.ok 0).trans rfl
  have c1 : w.cell? ⟨fb, 0, none⟩ = some (.int .i64 0) := (blk_cell hs.fi 0).trans rfl
  have c2 : w.cell? ⟨lb, 0, none⟩ = some (.slice A l.length c) := (blk_cell hs.li 0).trans rfl
  have c3 : w.cell? ⟨gb, 0, none⟩ = some (.int .i64 0) := (blk_cell hs.gi 0).trans rfl
  have f0 : w.frozen? ⟨okb, 0, none⟩ = false := blk_frozen hs.ok 0
  have hl : 0 < l.length := (List.getElem?_eq_some_iff.1 hr).1
  obtain ⟨ad, A0, cc0, e0, d0, d1, dl, dC⟩ := at_T62 hC 0 (by omega) (by omega)
  have er : rd_T62 l 0 = r := by
    have := rd_RT_at l 0 hl
    rw [hr] at this
    injection this with this
    exact this.symm
  rw [er] at d0 d1 dl dC
  subst e0
  have d0' : win.cell? ad = some (.slice A0 r.f0.length cc0) := d0
  replace d0' := (hs.bel.cell (World.block_lt_of_cell? win _ d0')).trans d0'
  obtain ⟨q1, q2⟩ := hq
  have hl' : (0 : Int) < (l.length : Int) := by omega
  obtain ⟨n, hn'⟩ : ∃ n, n = r.f0.length := ⟨_, rfl⟩
  rw [← hn'] at d0' hn ⊢
  have HS := Aside0.mk hs
  have NE := Aside0.mk hne
  have HZ := Aside0.mk hz
  have CC : Aside0 (w.cell? ⟨okb, 0, none⟩ = some (.bool b) ∧ w.cell? ⟨fb, 0, none⟩ = some (.int .i64 0) ∧ w.cell? ⟨lb, 0, none⟩ = some (.slice (some ad) l.length c) ∧ w.cell? ⟨gb, 0, none⟩ = some (.int .i64 0) ∧ w.cell? ad = some (.slice A0 n cc0)) := ⟨c0, c1, c2, c3, d0'⟩
  clear hs d0 d1 dl dC hr er hn' hC hne hz
  by_cases hneg : h < 0
  · have e1 : rlF n b h = (b, h) := by simp [rlF, hneg]
    rw [e1]
    clear CC
    go_enter Tryd.func50, Tryd.ntmps50
    go_wp2_with fail
    go_ret
    exact ⟨rfl, HS.out, ⟨rfl, rfl, rfl, Nat.le_refl _, fun _ _ _ => rfl⟩⟩
  have hnn : 0 ≤ h := by omega
  clear hneg
  cases b with
  | false =>
    have e1 : rlF n false h = (false, -100 - h) := by simp [rlF]; omega
    rw [e1]
    go_enter Tryd.func50, Tryd.ntmps50
    go_wp2_with fail
    refine start_ (n := 14) (S := fun w' => w'.cell? ⟨okb, 0, none⟩ = some (.bool false) ∧ w'.cell? ⟨fb, 0, none⟩ = some (.int .i64 0) ∧ w'.cell? ⟨lb, 0, none⟩ = some (.slice (some ad) l.length c) ∧ w'.cell? ⟨gb, 0, none⟩ = some (.int .i64 0) ∧ w'.cell? ad = some (.slice A0 n cc0)) (ds := [13]) #[false, false, false, false, false, false, false, false, false, false, false, false, false, false] (by kernel_rfl) rfl rfl ⟨CC.out.1, CC.out.2.1, CC.out.2.2.1, CC.out.2.2.2.1, CC.out.2.2.2.2⟩ (fun hHeld => ?_)
    refine take_ (i := 0) (N := some 11) (v := ?_) (a' := ?_) #[true, false, false, false, false, false, false, false, false, false, false, false, false, false] rfl rfl (by kernel_rfl) (fun _ _ _ h => h) (Or.inl ⟨by rfl, ?_⟩) hHeld ?_ ?_
    rotate_left
    · rintro w' ⟨s0, s1, s2, s3, s4⟩
      go_simp
      with_reducible rfl
    rotate_left
    · simp only [Act.put, List.setIfInBounds_toArray, List.set_cons_zero, List.set_cons_succ, i64_w, i32_w]
      rfl
    refine pure_ (i := 1) (N := some 12) (v := ?_) (a' := ?_) #[true, true, false, false, false, false, false, false, false, false, false, false, false, false] rfl rfl (by kernel_rfl) (fun _ _ _ h => h) (Or.inl ⟨by rfl, ?_⟩) ?_ ?_
    rotate_left
    · intro w'
      go_simp
      with_reducible rfl
    rotate_left
    · simp only [Act.put, List.setIfInBounds_toArray, List.set_cons_zero, List.set_cons_succ, i64_w, i32_w]
      rfl
    refine pure_ (i := 2) (N := some 13) (v := undef) (a' := ?_) #[true, true, true, false, false, false, false, false, false, false, false, false, false, false] rfl rfl (by kernel_rfl) (fun _ _ _ h => h) (Or.inr ⟨by rfl, rfl⟩) ?_ ?_
    rotate_left
    · simp only [Act.put, List.setIfInBounds_toArray, List.set_cons_zero, List.set_cons_succ, i64_w, i32_w]
      rfl
    refine pure_ (i := 3) (N := some 14) (v := undef) (a' := ?_) #[true, true, true, true, false, false, false, false, false, false, false, false, false, false] rfl rfl (by kernel_rfl) (fun _ _ _ h => h) (Or.inr ⟨by rfl, rfl⟩) ?_ ?_
    rotate_left
    · simp only [Act.put, List.setIfInBounds_toArray, List.set_cons_zero, List.set_cons_succ, i64_w, i32_w]
      rfl
    refine pure_ (i := 4) (N := some 15) (v := undef) (a' := ?_) #[true, true, true, true, true, false, false, false, false, false, false, false, false, false] rfl rfl (by kernel_rfl) (fun _ _ _ h => h) (Or.inr ⟨by rfl, rfl⟩) ?_ ?_
    rotate_left
    · simp only [Act.put, List.setIfInBounds_toArray, List.set_cons_zero, List.set_cons_succ, i64_w, i32_w]
      rfl
    refine pure_ (i := 5) (N := some 16) (v := undef) (a' := ?_) #[true, true, true, true, true, true, false, false, false, false, false, false, false, false] rfl rfl (by kernel_rfl) (fun _ _ _ h => h) (Or.inr ⟨by rfl, rfl⟩) ?_ ?_
    rotate_left
    · simp only [Act.put, List.setIfInBounds_toArray, List.set_cons_zero, List.set_cons_succ, i64_w, i32_w]
      rfl
    refine pure_ (i := 6) (N := some 17) (v := undef) (a' := ?_) #[true, true, true, true, true, true, true, false, false, false, false, false, false, false] rfl rfl (by kernel_rfl) (fun _ _ _ h => h) (Or.inr ⟨by rfl, rfl⟩) ?_ ?_
    rotate_left
    · simp only [Act.put, List.setIfInBounds_toArray, List.set_cons_zero, List.set_cons_succ, i64_w, i32_w]
      rfl
    refine pure_ (i := 7) (N := some 18) (v := undef) (a' := ?_) #[true, true, true, true, true, true, true, true, false, false, false, false, false, false] rfl rfl (by kernel_rfl) (fun _ _ _ h => h) (Or.inr ⟨by rfl, rfl⟩) ?_ ?_
    rotate_left
    · simp only [Act.put, List.setIfInBounds_toArray, List.set_cons_zero, List.set_cons_succ, i64_w, i32_w]
      rfl
    refine pure_ (i := 8) (N := some 19) (v := undef) (a' := ?_) #[true, true, true, true, true, true, true, true, true, false, false, false, false, false] rfl rfl (by kernel_rfl) (fun _ _ _ h => h) (Or.inr ⟨by rfl, rfl⟩) ?_ ?_
    rotate_left
    · simp only [Act.put, List.setIfInBounds_toArray, List.set_cons_zero, List.set_cons_succ, i64_w, i32_w]
      rfl
    refine pure_ (i := 9) (N := some 20) (v := undef) (a' := ?_) #[true, true, true, true, true, true, true, true, true, true, false, false, false, false] rfl rfl (by kernel_rfl) (fun _ _ _ h => h) (Or.inr ⟨by rfl, rfl⟩) ?_ ?_
    rotate_left
    · simp only [Act.put, List.setIfInBounds_toArray, List.set_cons_zero, List.set_cons_succ, i64_w, i32_w]
      rfl
    refine pure_ (i := 10) (N := some 21) (v := undef) (a' := ?_) #[true, true, true, true, true, true, true, true, true, true, true, false, false, false] rfl rfl (by kernel_rfl) (fun _ _ _ h => h) (Or.inr ⟨by rfl, rfl⟩) ?_ ?_
    rotate_left
    · simp only [Act.put, List.setIfInBounds_toArray, List.set_cons_zero, List.set_cons_succ, i64_w, i32_w]
      rfl
    refine pure_ (i := 11) (N := some 22) (v := undef) (a' := ?_) #[true, true, true, true, true, true, true, true, true, true, true, true, false, false] rfl rfl (by kernel_rfl) (fun _ _ _ h => h) (Or.inr ⟨by rfl, rfl⟩) ?_ ?_
    rotate_left
    · simp only [Act.put, List.setIfInBounds_toArray, List.set_cons_zero, List.set_cons_succ, i64_w, i32_w]
      rfl
    refine pure_ (i := 12) (N := some 23) (v := ?_) (a' := ?_) #[true, true, true, true, true, true, true, true, true, true, true, true, true, false] rfl rfl (by kernel_rfl) (fun _ _ _ h => h) (Or.inl ⟨by rfl, ?_⟩) ?_ ?_
    rotate_left
    · intro w'
      go_simp
      with_reducible rfl
    rotate_left
    · simp only [Act.put, List.setIfInBounds_toArray, List.set_cons_zero, List.set_cons_succ, i64_w, i32_w]
      rfl
    refine last_ (i := 13) (N := none) #[true, true, true, true, true, true, true, true, true, true, true, true, true, true] rfl rfl (by kernel_rfl) (by decide) (fun K hK => ?_)
    have hfz_ : World.frozen? _ ⟨okb, 0, none⟩ = false := (show w.drew.frozen? ⟨okb, 0, none⟩ = false from f0)
    refine skip_ (w1 := ?_) (by rfl) rfl ?_ ?_
    rotate_left
    · go_simp
      rfl
    refine hK.out _ _ ?_
    clear hK K
    refine done_ (by kernel_rfl) ?_
    
    have HF := Aside0.mk (HS.out.set NE.out HZ.out false).drew
    have cf : (w.setCell ⟨okb, 0, none⟩ (.bool false)).drew.cell? ⟨fb, 0, none⟩ = some (.int .i64 0) := (blk_cell HF.out.fi 0).trans rfl
    go_wp2_with fail
    go_ret
    exact ⟨rfl, HF.out, grown_set w okb _⟩
  | true =>
    by_cases hlt : h < (n : Int)
    · skip
      have hwn : wrap64 (n : Int) = n := by unfold wrap64; omega
      have hd : decide (h < wrap64 (n : Int)) = true := by rw [hwn]; simp [hlt]
      clear hwn
      have e1 : rlF n true h = (true, -100 - h) := by simp [rlF, hlt]; omega
      rw [e1]
      go_enter Tryd.func50, Tryd.ntmps50
      go_wp2_with fail
      refine start_ (n := 14) (S := fun w' => w'.cell? ⟨okb, 0, none⟩ = some (.bool true) ∧ w'.cell? ⟨fb, 0, none⟩ = some (.int .i64 0) ∧ w'.cell? ⟨lb, 0, none⟩ = some (.slice (some ad) l.length c) ∧ w'.cell? ⟨gb, 0, none⟩ = some (.int .i64 0) ∧ w'.cell? ad = some (.slice A0 n cc0)) (ds := [13]) #[false, false, false, false, false, false, false, false, false, false, false, false, false, false] (by kernel_rfl) rfl rfl ⟨CC.out.1, CC.out.2.1, CC.out.2.2.1, CC.out.2.2.2.1, CC.out.2.2.2.2⟩ (fun hHeld => ?_)
      refine take_ (i := 0) (N := some 11) (v := ?_) (a' := ?_) #[true, false, false, false, false, false, false, false, false, false, false, false, false, false] rfl rfl (by kernel_rfl) (fun _ _ _ h => h) (Or.inl ⟨by rfl, ?_⟩) hHeld ?_ ?_
      rotate_left
      · rintro w' ⟨s0, s1, s2, s3, s4⟩
        go_simp
        with_reducible rfl
      rotate_left
      · simp only [Act.put, List.setIfInBounds_toArray, List.set_cons_zero, List.set_cons_succ, i64_w, i32_w]
        rfl
      refine pure_ (i := 1) (N := some 12) (v := ?_) (a' := ?_) #[true, true, false, false, false, false, false, false, false, false, false, false, false, false] rfl rfl (by kernel_rfl) (fun _ _ _ h => h) (Or.inl ⟨by rfl, ?_⟩) ?_ ?_
      rotate_left
      · intro w'
        go_simp
        with_reducible rfl
      rotate_left
      · simp only [Act.put, List.setIfInBounds_toArray, List.set_cons_zero, List.set_cons_succ, i64_w, i32_w]
        rfl
      refine pure_ (i := 2) (N := some 13) (v := ?_) (a' := ?_) #[true, true, true, false, false, false, false, false, false, false, false, false, false, false] rfl rfl (by kernel_rfl) (fun _ _ _ h => h) (Or.inl ⟨by rfl, ?_⟩) ?_ ?_
      rotate_left
      · intro w'
        go_simp
        with_reducible rfl
      rotate_left
      · simp only [Act.put, List.setIfInBounds_toArray, List.set_cons_zero, List.set_cons_succ, i64_w, i32_w]
        rfl
      refine take_ (i := 3) (N := some 14) (v := ?_) (a' := ?_) #[true, true, true, true, false, false, false, false, false, false, false, false, false, false] rfl rfl (by kernel_rfl) (fun _ _ _ h => h) (Or.inl ⟨by rfl, ?_⟩) hHeld ?_ ?_
      rotate_left
      · rintro w' ⟨s0, s1, s2, s3, s4⟩
        go_simp
        with_reducible rfl
      rotate_left
      · simp only [Act.put, List.setIfInBounds_toArray, List.set_cons_zero, List.set_cons_succ, i64_w, i32_w]
        rfl
      refine take_ (i := 4) (N := some 15) (v := ?_) (a' := ?_) #[true, true, true, true, true, false, false, false, false, false, false, false, false, false] rfl rfl (by kernel_rfl) (fun _ _ _ h => h) (Or.inl ⟨by rfl, ?_⟩) hHeld ?_ ?_
      rotate_left
      · rintro w' ⟨s0, s1, s2, s3, s4⟩
        go_simp
        with_reducible rfl
      rotate_left
      · simp only [Act.put, List.setIfInBounds_toArray, List.set_cons_zero, List.set_cons_succ, i64_w, i32_w]
        rfl
      refine take_ (i := 5) (N := some 16) (v := ?_) (a' := ?_) #[true, true, true, true, true, true, false, false, false, false, false, false, false, false] rfl rfl (by kernel_rfl) (fun _ _ _ h => h) (Or.inl ⟨by rfl, ?_⟩) hHeld ?_ ?_
      rotate_left
      · rintro w' ⟨s0, s1, s2, s3, s4⟩
        go_simp
        with_reducible rfl
      rotate_left
      · simp only [Act.put, List.setIfInBounds_toArray, List.set_cons_zero, List.set_cons_succ, i64_w, i32_w]
        rfl
      refine pure_ (i := 6) (N := some 17) (v := ?_) (a' := ?_) #[true, true, true, true, true, true, true, false, false, false, false, false, false, false] rfl rfl (by kernel_rfl) (fun _ _ _ h => h) (Or.inl ⟨by rfl, ?_⟩) ?_ ?_
      rotate_left
      · intro w'
        go_simp
        with_reducible rfl
      rotate_left
      · simp only [Act.put, List.setIfInBounds_toArray, List.set_cons_zero, List.set_cons_succ, i64_w, i32_w]
        rfl
      refine pure_ (i := 7) (N := some 18) (v := ?_) (a' := ?_) #[true, true, true, true, true, true, true, true, false, false, false, false, false, false] rfl rfl (by kernel_rfl) (fun _ _ _ h => h) (Or.inl ⟨by rfl, ?_⟩) ?_ ?_
      rotate_left
      · intro w'
        go_simp
        with_reducible rfl
      rotate_left
      · simp only [Act.put, List.setIfInBounds_toArray, List.set_cons_zero, List.set_cons_succ, i64_w, i32_w]
        rfl
      refine take_ (i := 8) (N := some 19) (v := ?_) (a' := ?_) #[true, true, true, true, true, true, true, true, true, false, false, false, false, false] rfl rfl (by kernel_rfl) (fun _ _ _ h => h) (Or.inl ⟨by rfl, ?_⟩) hHeld ?_ ?_
      rotate_left
      · rintro w' ⟨s0, s1, s2, s3, s4⟩
        go_simp
        with_reducible rfl
      rotate_left
      · simp only [Act.put, List.setIfInBounds_toArray, List.set_cons_zero, List.set_cons_succ, i64_w, i32_w]
        rfl
      refine pure_ (i := 9) (N := some 20) (v := ?_) (a' := ?_) #[true, true, true, true, true, true, true, true, true, true, false, false, false, false] rfl rfl (by kernel_rfl) (fun _ _ _ h => h) (Or.inl ⟨by rfl, ?_⟩) ?_ ?_
      rotate_left
      · intro w'
        go_simp
        with_reducible rfl
      rotate_left
      · simp only [Act.put, List.setIfInBounds_toArray, List.set_cons_zero, List.set_cons_succ, i64_w, i32_w]
        rfl
      refine pure_ (i := 10) (N := some 21) (v := ?_) (a' := ?_) #[true, true, true, true, true, true, true, true, true, true, true, false, false, false] rfl rfl (by kernel_rfl) (fun _ _ _ h => h) (Or.inl ⟨by rfl, ?_⟩) ?_ ?_
      rotate_left
      · intro w'
        go_simp
        with_reducible rfl
      rotate_left
      · simp only [Act.put, List.setIfInBounds_toArray, List.set_cons_zero, List.set_cons_succ, i64_w, i32_w]
        rfl
      refine pure_ (i := 11) (N := some 22) (v := ?_) (a' := ?_) #[true, true, true, true, true, true, true, true, true, true, true, true, false, false] rfl rfl (by kernel_rfl) (fun _ _ _ h => h) (Or.inl ⟨by rfl, ?_⟩) ?_ ?_
      rotate_left
      · intro w'
        go_simp
        with_reducible rfl
      rotate_left
      · simp only [Act.put, List.setIfInBounds_toArray, List.set_cons_zero, List.set_cons_succ, i64_w, i32_w]
        rfl
      refine pure_ (i := 12) (N := some 23) (v := ?_) (a' := ?_) #[true, true, true, true, true, true, true, true, true, true, true, true, true, false] rfl rfl (by kernel_rfl) (fun _ _ _ h => h) (Or.inl ⟨by rfl, ?_⟩) ?_ ?_
      rotate_left
      · intro w'
        go_simp
        with_reducible rfl
      rotate_left
      · simp only [Act.put, List.setIfInBounds_toArray, List.set_cons_zero, List.set_cons_succ, i64_w, i32_w]
        rfl
      refine last_ (i := 13) (N := none) #[true, true, true, true, true, true, true, true, true, true, true, true, true, true] rfl rfl (by kernel_rfl) (by decide) (fun K hK => ?_)
      have hfz_ : World.frozen? _ ⟨okb, 0, none⟩ = false := (show w.drew.frozen? ⟨okb, 0, none⟩ = false from f0)
      refine skip_ (w1 := ?_) (by rfl) rfl ?_ ?_
      rotate_left
      · go_simp
        rfl
      refine hK.out _ _ ?_
      clear hK K
      refine done_ (by kernel_rfl) ?_
      
      have HF := Aside0.mk (HS.out.set NE.out HZ.out true).drew
      have cf : (w.setCell ⟨okb, 0, none⟩ (.bool true)).drew.cell? ⟨fb, 0, none⟩ = some (.int .i64 0) := (blk_cell HF.out.fi 0).trans rfl
      go_wp2_with fail
      go_ret
      exact ⟨rfl, HF.out, grown_set w okb _⟩
    · skip
      have hwn : wrap64 (n : Int) = n := by unfold wrap64; omega
      have hd : decide (h < wrap64 (n : Int)) = false := by rw [hwn]; simp [hlt]
      clear hwn
      have e1 : rlF n true h = (false, -100 - h) := by simp [rlF, hlt]; omega
      rw [e1]
      go_enter Tryd.func50, Tryd.ntmps50
      go_wp2_with fail
      refine start_ (n := 14) (S := fun w' => w'.cell? ⟨okb, 0, none⟩ = some (.bool true) ∧ w'.cell? ⟨fb, 0, none⟩ = some (.int .i64 0) ∧ w'.cell? ⟨lb, 0, none⟩ = some (.slice (some ad) l.length c) ∧ w'.cell? ⟨gb, 0, none⟩ = some (.int .i64 0) ∧ w'.cell? ad = some (.slice A0 n cc0)) (ds := [13]) #[false, false, false, false, false, false, false, false, false, false, false, false, false, false] (by kernel_rfl) rfl rfl ⟨CC.out.1, CC.out.2.1, CC.out.2.2.1, CC.out.2.2.2.1, CC.out.2.2.2.2⟩ (fun hHeld => ?_)
      refine take_ (i := 0) (N := some 11) (v := ?_) (a' := ?_) #[true, false, false, false, false, false, false, false, false, false, false, false, false, false] rfl rfl (by kernel_rfl) (fun _ _ _ h => h) (Or.inl ⟨by rfl, ?_⟩) hHeld ?_ ?_
      rotate_left
      · rintro w' ⟨s0, s1, s2, s3, s4⟩
        go_simp
        with_reducible rfl
      rotate_left
      · simp only [Act.put, List.setIfInBounds_toArray, List.set_cons_zero, List.set_cons_succ, i64_w, i32_w]
        rfl
      refine pure_ (i := 1) (N := some 12) (v := ?_) (a' := ?_) #[true, true, false, false, false, false, false, false, false, false, false, false, false, false] rfl rfl (by kernel_rfl) (fun _ _ _ h => h) (Or.inl ⟨by rfl, ?_⟩) ?_ ?_
      rotate_left
      · intro w'
        go_simp
        with_reducible rfl
      rotate_left
      · simp only [Act.put, List.setIfInBounds_toArray, List.set_cons_zero, List.set_cons_succ, i64_w, i32_w]
        rfl
      refine pure_ (i := 2) (N := some 13) (v := ?_) (a' := ?_) #[true, true, true, false, false, false, false, false, false, false, false, false, false, false] rfl rfl (by kernel_rfl) (fun _ _ _ h => h) (Or.inl ⟨by rfl, ?_⟩) ?_ ?_
      rotate_left
      · intro w'
        go_simp
        with_reducible rfl
      rotate_left
      · simp only [Act.put, List.setIfInBounds_toArray, List.set_cons_zero, List.set_cons_succ, i64_w, i32_w]
        rfl
      refine take_ (i := 3) (N := some 14) (v := ?_) (a' := ?_) #[true, true, true, true, false, false, false, false, false, false, false, false, false, false] rfl rfl (by kernel_rfl) (fun _ _ _ h => h) (Or.inl ⟨by rfl, ?_⟩) hHeld ?_ ?_
      rotate_left
      · rintro w' ⟨s0, s1, s2, s3, s4⟩
        go_simp
        with_reducible rfl
      rotate_left
      · simp only [Act.put, List.setIfInBounds_toArray, List.set_cons_zero, List.set_cons_succ, i64_w, i32_w]
        rfl
      refine take_ (i := 4) (N := some 15) (v := ?_) (a' := ?_) #[true, true, true, true, true, false, false, false, false, false, false, false, false, false] rfl rfl (by kernel_rfl) (fun _ _ _ h => h) (Or.inl ⟨by rfl, ?_⟩) hHeld ?_ ?_
      rotate_left
      · rintro w' ⟨s0, s1, s2, s3, s4⟩
        go_simp
        with_reducible rfl
      rotate_left
      · simp only [Act.put, List.setIfInBounds_toArray, List.set_cons_zero, List.set_cons_succ, i64_w, i32_w]
        rfl
      refine take_ (i := 5) (N := some 16) (v := ?_) (a' := ?_) #[true, true, true, true, true, true, false, false, false, false, false, false, false, false] rfl rfl (by kernel_rfl) (fun _ _ _ h => h) (Or.inl ⟨by rfl, ?_⟩) hHeld ?_ ?_
      rotate_left
      · rintro w' ⟨s0, s1, s2, s3, s4⟩
        go_simp
        with_reducible rfl
      rotate_left
      · simp only [Act.put, List.setIfInBounds_toArray, List.set_cons_zero, List.set_cons_succ, i64_w, i32_w]
        rfl
      refine pure_ (i := 6) (N := some 17) (v := ?_) (a' := ?_) #[true, true, true, true, true, true, true, false, false, false, false, false, false, false] rfl rfl (by kernel_rfl) (fun _ _ _ h => h) (Or.inl ⟨by rfl, ?_⟩) ?_ ?_
      rotate_left
      · intro w'
        go_simp
        with_reducible rfl
      rotate_left
      · simp only [Act.put, List.setIfInBounds_toArray, List.set_cons_zero, List.set_cons_succ, i64_w, i32_w]
        rfl
      refine pure_ (i := 7) (N := some 18) (v := ?_) (a' := ?_) #[true, true, true, true, true, true, true, true, false, false, false, false, false, false] rfl rfl (by kernel_rfl) (fun _ _ _ h => h) (Or.inl ⟨by rfl, ?_⟩) ?_ ?_
      rotate_left
      · intro w'
        go_simp
        with_reducible rfl
      rotate_left
      · simp only [Act.put, List.setIfInBounds_toArray, List.set_cons_zero, List.set_cons_succ, i64_w, i32_w]
        rfl
      refine take_ (i := 8) (N := some 19) (v := ?_) (a' := ?_) #[true, true, true, true, true, true, true, true, true, false, false, false, false, false] rfl rfl (by kernel_rfl) (fun _ _ _ h => h) (Or.inl ⟨by rfl, ?_⟩) hHeld ?_ ?_
      rotate_left
      · rintro w' ⟨s0, s1, s2, s3, s4⟩
        go_simp
        with_reducible rfl
      rotate_left
      · simp only [Act.put, List.setIfInBounds_toArray, List.set_cons_zero, List.set_cons_succ, i64_w, i32_w]
        rfl
      refine pure_ (i := 9) (N := some 20) (v := ?_) (a' := ?_) #[true, true, true, true, true, true, true, true, true, true, false, false, false, false] rfl rfl (by kernel_rfl) (fun _ _ _ h => h) (Or.inl ⟨by rfl, ?_⟩) ?_ ?_
      rotate_left
      · intro w'
        go_simp
        with_reducible rfl
      rotate_left
      · simp only [Act.put, List.setIfInBounds_toArray, List.set_cons_zero, List.set_cons_succ, i64_w, i32_w]
        rfl
      refine pure_ (i := 10) (N := some 21) (v := ?_) (a' := ?_) #[true, true, true, true, true, true, true, true, true, true, true, false, false, false] rfl rfl (by kernel_rfl) (fun _ _ _ h => h) (Or.inl ⟨by rfl, ?_⟩) ?_ ?_
      rotate_left
      · intro w'
        go_simp
        with_reducible rfl
      rotate_left
      · simp only [Act.put, List.setIfInBounds_toArray, List.set_cons_zero, List.set_cons_succ, i64_w, i32_w]
        rfl
      refine pure_ (i := 11) (N := some 22) (v := ?_) (a' := ?_) #[true, true, true, true, true, true, true, true, true, true, true, true, false, false] rfl rfl (by kernel_rfl) (fun _ _ _ h => h) (Or.inl ⟨by rfl, ?_⟩) ?_ ?_
      rotate_left
      · intro w'
        go_simp
        with_reducible rfl
      rotate_left
      · simp only [Act.put, List.setIfInBounds_toArray, List.set_cons_zero, List.set_cons_succ, i64_w, i32_w]
        rfl
      refine pure_ (i := 12) (N := some 23) (v := ?_) (a' := ?_) #[true, true, true, true, true, true, true, true, true, true, true, true, true, false] rfl rfl (by kernel_rfl) (fun _ _ _ h => h) (Or.inl ⟨by rfl, ?_⟩) ?_ ?_
      rotate_left
      · intro w'
        go_simp
        with_reducible rfl
      rotate_left
      · simp only [Act.put, List.setIfInBounds_toArray, List.set_cons_zero, List.set_cons_succ, i64_w, i32_w]
        rfl
      refine last_ (i := 13) (N := none) #[true, true, true, true, true, true, true, true, true, true, true, true, true, true] rfl rfl (by kernel_rfl) (by decide) (fun K hK => ?_)
      have hfz_ : World.frozen? _ ⟨okb, 0, none⟩ = false := (show w.drew.frozen? ⟨okb, 0, none⟩ = false from f0)
      refine skip_ (w1 := ?_) (by rfl) rfl ?_ ?_
      rotate_left
      · go_simp
        rfl
      refine hK.out _ _ ?_
      clear hK K
      refine done_ (by kernel_rfl) ?_
      
      have HF := Aside0.mk (HS.out.set NE.out HZ.out false).drew
      have cf : (w.setCell ⟨okb, 0, none⟩ (.bool false)).drew.cell? ⟨fb, 0, none⟩ = some (.int .i64 0) := (blk_cell HF.out.fi 0).trans rfl
      go_wp2_with fail
      go_ret
      exact ⟨rfl, HF.out, grown_set w okb _⟩
theorem rollCb (okb fb lb gb base : Nat) (hne : Ne3 okb fb lb gb) (A : Option Addr) (c : Nat) (l : List S62) (r : S62) (hr : l[0]? = some r) (hn : r.f0.length ≤ 1048576) (win : World) (hC : Kd.C k62 win A l.length l) (hz : win.heap.size ≤ okb) (h0 : okb < base) (h1 : fb < base) (h2 : lb < base) (h3 : gb < base) :
    Cb base (some okb) RollQ (RlSt okb fb lb gb A c l.length win) (rlF r.f0.length) (.func (.func 50) #[] #[.pointer (some ⟨fb, 0, none⟩), .pointer (some ⟨okb, 0, none⟩), .pointer (some ⟨lb, 0, none⟩), .pointer (some ⟨gb, 0, none⟩)]) where
  row_lt := fun k h => by injection h with h; omega
  keep := fun {_ _ _} _ _ hb hs => ⟨(hb.block _ h0).trans hs.ok, (hb.block _ h1).trans hs.fi, (hb.block _ h2).trans hs.li, (hb.block _ h3).trans hs.gi, hs.bel.trans (hb.mono (by omega))⟩
  call := ⟨50, _, rfl, fun args w => enters_ Tryd.func50 (by kernel_rfl) rfl args w, fun b h w _ hq hs => rollT_calls okb fb lb gb hne A c l r hr hn win hC hz b h hq w hs⟩
end Go.Proofs.YtfgglniigeagdaaDoor.Cn
namespace Go.Proofs.YtfgglniigeagdaaDoor.Cn
set_option linter.unusedSimpArgs false
set_option linter.unusedVariables false
open Go.RowKit Go.Maps Go.Proofs.YtfgglniigeagdaaDoorW.PrintWords Go.Proofs.YtfgglniigeagdaaDoorW.PrintLast Go.Proofs.YtfgglniigeagdaaDoorW.PrintMore Go.Proofs.YtfgglniigeagdaaDoor.QD
structure UrSt (okb rb fb : Nat) (cs : Array Value) (A : Option Addr) (n c : Nat) (ex : Bool) (first : Int) (win : World) (b : Bool) (W : World) : Prop where
  ok : W.heap[okb]? = some (.cells #[.bool b] 4 (0, 0))
  re : W.heap[rb]? = some (.cells #[.slice A n c, .bool ex] 62 (0, 0))
  fi : W.heap[fb]? = some (.cells #[.int .i64 first] 3 (0, 0))
  bel : Below win.heap.size win W
theorem UrSt.set {okb rb fb n c : Nat} {cs : Array Value} {A : Option Addr} {ex : Bool} {first : Int} {win W : World} {b : Bool} (h : UrSt okb rb fb cs A n c ex first win b W) (h1 : okb ≠ rb) (h2 : okb ≠ fb) (hz : win.heap.size ≤ okb) (b' : Bool) : UrSt okb rb fb cs A n c ex first win b' (W.setCell ⟨okb, 0, none⟩ (.bool b')) :=
  ⟨by have := blk_set h.ok 0 (.bool b'); simpa using this, blk_far h.re (Ne.symm h1) _, blk_far h.fi (Ne.symm h2) _, h.bel.trans ((Below.refl _ _).setCell hz _)⟩
set_option maxRecDepth 100000 in
theorem unrollT_calls (okb rb fb : Nat) (h1 : okb ≠ rb) (h2 : okb ≠ fb) (cs : Array Value) (A : Option Addr) (n c : Nat) (ex : Bool) (first : Int) (hn : n ≤ 1048576) (hf : 0 ≤ first ∧ first ≤ 2147483647) (win : World) (hz : win.heap.size ≤ okb) (b : Bool) (h : Int) (hq : RollQ h) (w : World) (hs : UrSt okb rb fb cs A n c ex first win b w) :
    Calls Tryd.prog 51 #[.int .i64 h, .pointer (some ⟨okb, 0, none⟩), .pointer (some ⟨rb, 0, none⟩), .pointer (some ⟨fb, 0, none⟩)] w fun e w' => e = .returned (.int .i64 (urF n first b h).2) ∧ UrSt okb rb fb cs A n c ex first win (urF n first b h).1 w' ∧ w.grownBy w' (some okb) := by
  have c0 : w.cell? ⟨okb, 0, none⟩ = some (.bool b) := (blk_cell hs.ok 0).trans rfl
  have c1 : w.cell? ⟨rb, 0, none⟩ = some (.slice A n c) := (blk_cell hs.re 0).trans rfl
  have c2 : w.cell? ⟨fb, 0, none⟩ = some (.int .i64 first) := (blk_cell hs.fi 0).trans rfl
  have f0 : w.frozen? ⟨okb, 0, none⟩ = false := blk_frozen hs.ok 0
  obtain ⟨q1, q2⟩ := hq
  obtain ⟨g1, g2⟩ := hf
  have HS := Aside0.mk hs
  have NE := Aside0.mk (And.intro h1 h2)
  have HZ := Aside0.mk hz
  clear hs h1 h2 hz
  by_cases hneg : -100 < h
  · have e1 : urF n first b h = (b, h) := by simp [urF, hneg]
    rw [e1]
    go_enter Tryd.func51, Tryd.ntmps51
    go_wp2_with fail
    go_ret
    exact ⟨rfl, HS.out, ⟨rfl, rfl, rfl, Nat.le_refl _, fun _ _ _ => rfl⟩⟩
  have hnn : h ≤ -100 := by omega
  cases b with
  | false =>
    have e1 : urF n first false h = (false, first + -100 - h) := by simp [urF, hneg]
    rw [e1]
    clear hneg
    have HF := Aside0.mk (HS.out.set NE.out.1 NE.out.2 HZ.out false)
    have cf : (w.setCell ⟨okb, 0, none⟩ (.bool false)).cell? ⟨fb, 0, none⟩ = some (.int .i64 first) := (blk_cell HF.out.fi 0).trans rfl
    go_enter Tryd.func51, Tryd.ntmps51
    go_wp2_with fail
    go_ret
    exact ⟨rfl, HF.out, grown_set' w okb _⟩
  | true =>
    by_cases hlt : -100 - h < (n : Int)
    · have e1 : urF n first true h = (true, first + -100 - h) := by simp [urF, hneg, hlt]
      rw [e1]
      clear hneg
      have HF := Aside0.mk (HS.out.set NE.out.1 NE.out.2 HZ.out true)
      have cf : (w.setCell ⟨okb, 0, none⟩ (.bool true)).cell? ⟨fb, 0, none⟩ = some (.int .i64 first) := (blk_cell HF.out.fi 0).trans rfl
      go_enter Tryd.func51, Tryd.ntmps51
      go_wp2_with fail
      go_ret
      exact ⟨rfl, HF.out, grown_set' w okb _⟩
    · have e1 : urF n first true h = (false, first + -100 - h) := by simp [urF, hneg, hlt]
      rw [e1]
      clear hneg
      have HF := Aside0.mk (HS.out.set NE.out.1 NE.out.2 HZ.out false)
      have cf : (w.setCell ⟨okb, 0, none⟩ (.bool false)).cell? ⟨fb, 0, none⟩ = some (.int .i64 first) := (blk_cell HF.out.fi 0).trans rfl
      go_enter Tryd.func51, Tryd.ntmps51
      go_wp2_with fail
      go_ret
      exact ⟨rfl, HF.out, grown_set' w okb _⟩
theorem unrollCb (okb rb fb base : Nat) (h1 : okb ≠ rb) (h2 : okb ≠ fb) (cs : Array Value) (A : Option Addr) (n c : Nat) (ex : Bool) (first : Int) (hn : n ≤ 1048576) (hf : 0 ≤ first ∧ first ≤ 2147483647) (win : World) (hz : win.heap.size ≤ okb) (k0 : okb < base) (k1 : rb < base) (k2 : fb < base) :
    Cb base (some okb) RollQ (UrSt okb rb fb cs A n c ex first win) (urF n first) (.func (.func 51) #[] #[.pointer (some ⟨okb, 0, none⟩), .pointer (some ⟨rb, 0, none⟩), .pointer (some ⟨fb, 0, none⟩)]) where
  row_lt := fun k h => by injection h with h; omega
  keep := fun {_ _ _} _ _ hb hs => ⟨(hb.block _ k0).trans hs.ok, (hb.block _ k1).trans hs.re, (hb.block _ k2).trans hs.fi, hs.bel.trans (hb.mono (by omega))⟩
  call := ⟨51, _, rfl, fun args w => enters_ Tryd.func51 (by kernel_rfl) rfl args w, fun b h w _ hq hs => unrollT_calls okb rb fb h1 h2 cs A n c ex first hn hf win hz b h hq w hs⟩
theorem foldm_true {α : Type} (g : Bool → α → Bool × α) (p : α → α) (l : List α) (h : ∀ x ∈ l, g true x = (true, p x)) : foldm g true l = (true, l.map p) := by
  induction l with
  | nil => rfl
  | cons x l ih =>
    have h1 := h x (by simp)
    have h2 := ih (fun y hy => h y (by simp [hy]))
    simp only [foldm, h1, h2, List.map_cons]
def tvp (r : Int → Int) (v : S74) : S74 := if v.f0 = 5 then ⟨v.f0, v.f1, r v.f2⟩ else v
def tfp (r : Int → Int) (f : S118) : S118 := ⟨tvp r f.f0, f.f1⟩
def tsp (r : Int → Int) (s : S53) : S53 := ⟨s.f0, s.f1.map r, ⟨s.f2.f0, s.f2.f1.map (tvp r), s.f2.f2.map (tvp r), s.f2.f3.map (tfp r)⟩⟩
theorem tsub_true (f : Bool → Int → Bool × Int) (r : Int → Int) {Q : Int → Prop} (hf : ∀ h, Q h → f true h = (true, r h)) (s : S53) (hs : TQ Q s) : tsub f true s = (true, tsp r s) := by
  have hv : ∀ v : S74, (v.f0 = 5 → Q v.f2) → tval f true v = (true, tvp r v) := fun v hv => by
    unfold tval tvp
    by_cases h5 : v.f0 = 5
    · rw [if_pos h5, if_pos h5, hf _ (hv h5)]
    · rw [if_neg h5, if_neg h5]
  have hfd : ∀ v : S118, (v.f0.f0 = 5 → Q v.f0.f2) → tfield f true v = (true, tfp r v) := fun v h => by
    unfold tfield tfp
    rw [hv _ h]
  unfold tsub
  rw [foldm_true f r s.f1 (fun x hx => hf x (hs.q1 x hx))]
  dsimp only
  rw [foldm_true (tval f) (tvp r) s.f2.f1 (fun x hx => hv x (hs.q2 x hx))]
  dsimp only
  rw [foldm_true (tval f) (tvp r) s.f2.f2 (fun x hx => hv x (hs.q3 x hx))]
  dsimp only
  rw [foldm_true (tfield f) (tfp r) s.f2.f3 (fun x hx => hfd x (hs.q4 x hx))]
  rfl
def rlH (h : Int) : Int := if h < 0 then h else -100 - h
def urH (first h : Int) : Int := if -100 < h then h else first + -100 - h
theorem rlF_true (n h : Int) (hq : -12 ≤ h ∧ h < n) : rlF n true h = (true, rlH h) := by
  unfold rlF rlH
  by_cases h0 : h < 0
  · rw [if_pos h0, if_pos h0]
  · rw [if_neg h0, if_neg h0]; simp; omega
theorem urF_true (n first h : Int) (hq : -100 < h ∨ -100 - h < n) : urF n first true h = (true, urH first h) := by
  unfold urF urH
  by_cases h0 : -100 < h
  · rw [if_pos h0, if_pos h0]
  · rw [if_neg h0, if_neg h0]; simp; omega
/-- While a group is rolled up, or unrolled: its memory. -/
structure RL (St : Bool → World → Prop) (w : World) (base ob rb : Nat) (ex : Bool) (v : Value) (o : List S53) (W : World) : Prop where
  st : St true W
  out : W.heap[ob]? = some (.cells #[v, .bool ex] 62 (0, 0))
  res : W.heap[rb]? = some (.cells #[.slice none 0 0, .bool false] 62 (0, 0))
  row : Kd.R k53 53 W base (fun _ => True) v o
  bel : Below w.heap.size w W
  hz : base ≤ W.heap.size
/-- What the state of the function value abides. -/
structure RLok (St : Bool → World → Prop) (w : World) (base ob rb : Nat) (okb : Nat) : Prop where
  keep : ∀ {W W' : World}, base ≤ W.heap.size → W.heap.size ≤ W'.heap.size → Below base W W' → St true W → St true W'
  set : ∀ (W : World) (u : Value), St true W → St true (W.setCell ⟨ob, 0, none⟩ u)
  b0 : w.heap.size ≤ ob
  b1 : ob < base
  b2 : rb < base
  b3 : okb < base
  b4 : w.heap.size ≤ okb
  n1 : ob ≠ okb
  n2 : rb ≠ okb
  n3 : rb ≠ ob
section
variable {St : Bool → World → Prop} {w : World} {base ob rb okb : Nat} {ex : Bool} {v v' : Value} {l l' : List S53} {W W' : World}
theorem RL.below (K : RLok St w base ob rb okb) (h : RL St w base ob rb ex v l W) (hb : Below W.heap.size W W') : RL St w base ob rb ex v l W' :=
  ⟨K.keep h.hz hb.size (hb.mono h.hz) h.st, blk_below h.out hb, blk_below h.res hb, Kd.R_below h.row hb, h.bel.trans (hb.mono h.bel.size), Nat.le_trans h.hz hb.size⟩
theorem RL.call (K : RLok St w base ob rb okb) (h : RL St w base ob rb ex v l W) (hs : St true W') (hg : W.grownBy W' (some okb)) : RL St w base ob rb ex v l W' :=
  ⟨hs, blk_grown h.out hg (by intro e; injection e with e; exact K.n1 e), blk_grown h.res hg (by intro e; injection e with e; exact K.n2 e), Kd.R_mono (Kd.R_grown (Kd.R_bound h.row) hg (fun k hk e => by injection e with e; have := hk.2.1; have := K.b3; omega)) (fun _ _ => trivial), h.bel.trans (bel_of_grown hg h.bel.size (fun k e => by injection e with e; have := K.b4; omega)), Nat.le_trans h.hz hg.size⟩
theorem RL.app (K : RLok St w base ob rb okb) (h : RL St w base ob rb ex v l W) (hr : Kd.R k53 53 W' base (fun _ => True) v' l') (hg : W.grownBy W' v.ownBlock) : W'.heap[ob]? = some (.cells #[v, .bool ex] 62 (0, 0)) ∧ RL St w base ob rb ex v' l' (W'.setCell ⟨ob, 0, none⟩ v') := by
  have bo := blk_grown h.out hg (Kd.R_ne h.row h.out (by decide))
  have br := blk_grown h.res hg (Kd.R_ne h.row h.res (by decide))
  have hbel := bel_of_grown hg h.hz (own_base' h.row)
  have hw0 : w.heap.size ≤ base := Nat.le_trans K.b0 (Nat.le_of_lt K.b1)
  refine ⟨bo, K.set W' v' (K.keep h.hz hg.size hbel h.st), by have := blk_set bo 0 v'; simpa using this, blk_far br K.n3 _, Kd.R_set hr bo (by decide) 0 v', (h.bel.trans (hbel.mono hw0)).trans ((Below.refl _ _).setCell (p := ⟨ob, 0, none⟩) K.b0 v'), by have := hg.size; have := h.hz; simp; omega⟩
end
def RlOut (ex : Bool) (o : List S53) (w : World) (e : Ending) (w' : World) : Prop :=
  ∃ v, e = .returned (.tuple #[.agg #[v, .bool ex], .int .i64 0]) ∧ Kd.R k53 53 w' w.heap.size (fun _ => True) v o ∧ Below w.heap.size w w'
end Go.Proofs.YtfgglniigeagdaaDoor.Cn
namespace Go.Proofs.YtfgglniigeagdaaDoor.Cn
set_option linter.unusedSimpArgs false
set_option linter.unusedVariables false
open Go.RowKit Go.Maps Go.Proofs.YtfgglniigeagdaaDoorW.PrintWords Go.Proofs.YtfgglniigeagdaaDoorW.PrintLast Go.Proofs.YtfgglniigeagdaaDoorW.PrintMore Go.Proofs.YtfgglniigeagdaaDoor.QD
set_option maxRecDepth 100000 in
set_option maxHeartbeats 16000000 in
theorem roll_calls (A : Option Addr) (c : Nat) (l : List S62) (r : S62) (w : World) (hC : Kd.C k62 w A l.length l) (hcap : l.length ≤ c) (hr : l[0]? = some r) (hn : r.f0.length ≤ 1048576) (hin : ∀ s ∈ r.f0, SOk RollQ s) (htr : ∀ s ∈ r.f0, tsub (rlF r.f0.length) true s = (true, tsp rlH s)) :
    Calls Tryd.prog 26 #[.slice A l.length c, .int .i64 0] w (RlOut r.f1 (r.f0.map (tsp rlH)) w) := by
  have hl : 0 < l.length := (List.getElem?_eq_some_iff.1 hr).1
  obtain ⟨ad, A0, cc0, e0, d0, d1, dl, dC⟩ := at_T62 hC 0 (by omega) (by omega)
  have er : rd_T62 l 0 = r := by
    have := rd_RT_at l 0 hl
    rw [hr] at this
    injection this with this
    exact this.symm
  rw [er] at d0 d1 dl dC
  subst e0
  have d0' : w.cell? ad = some (.slice A0 r.f0.length cc0) := d0
  have d1' : w.cell? ⟨ad.block, ad.off + 1, none⟩ = some (.bool r.f1) := d1
  have HC := Aside0.mk hC
  have HRC := Aside0.mk dC
  have HR := Aside0.mk hr
  have HIN := Aside0.mk hin
  have HTR := Aside0.mk htr
  have hl' : (0 : Int) < (l.length : Int) := by omega
  have hnil : l ≠ [] := by rintro rfl; simp at hl
  clear hC hr hin htr d0 d1 dC er
  go_enter Tryd.func26, Tryd.ntmps26
  go_wp2_with fail
  have bA : Below w.heap.size w (((w.alloc (.cells #[.slice (some ad) l.length c] 22)).alloc (.cells #[.int .i64 0] 3)).alloc (.cells #[.slice none 0 0, .bool false] 62)) := (((Below.refl _ _).alloc (Nat.le_refl _) _).alloc (by simp) _).alloc (by simp; omega) _
  have q0 := blk_alloc (blk_alloc (blk_new w (.cells #[.slice (some ad) l.length c] 22)) (.cells #[.int .i64 0] 3)) (.cells #[.slice none 0 0, .bool false] 62)
  have q1 : (((w.alloc (.cells #[.slice (some ad) l.length c] 22)).alloc (.cells #[.int .i64 0] 3)).alloc (.cells #[.slice none 0 0, .bool false] 62)).heap[w.heap.size + 1]? = some (.cells #[.int .i64 0] 3 (0, 0)) := by have h := blk_alloc (blk_new (w.alloc (.cells #[.slice (some ad) l.length c] 22)) (.cells #[.int .i64 0] 3)) (.cells #[.slice none 0 0, .bool false] 62); rw [World.size_alloc] at h; exact h
  have q2 : (((w.alloc (.cells #[.slice (some ad) l.length c] 22)).alloc (.cells #[.int .i64 0] 3)).alloc (.cells #[.slice none 0 0, .bool false] 62)).heap[w.heap.size + 1 + 1]? = some (.cells #[.slice none 0 0, .bool false] 62 (0, 0)) := by have h := blk_new ((w.alloc (.cells #[.slice (some ad) l.length c] 22)).alloc (.cells #[.int .i64 0] 3)) (.cells #[.slice none 0 0, .bool false] 62); rw [World.size_alloc, World.size_alloc] at h; exact h
  have QA := Aside0.mk (And.intro q0 (And.intro q1 q2))
  have BA := Aside0.mk bA
  clear q0 q1 q2 bA
  refine (types_Count.calls 1 (some ad) c [] 0 _ ⟨rfl, Nat.zero_le _, fun h => absurd h (by decide)⟩ (Nat.zero_le _) rfl).mono ?_
  rintro e w1 ⟨rfl, hb1⟩
  have B1 : Aside0 (Below w.heap.size w w1) := ⟨BA.out.trans (hb1.mono BA.out.size)⟩
  have q0 := blk_below QA.out.1 hb1
  have q1 := blk_below QA.out.2.1 hb1
  have q2 := blk_below QA.out.2.2 hb1
  have hlt0 := blk_lt q2
  have c0 : w1.cell? ⟨w.heap.size, 0, none⟩ = some (.slice (some ad) l.length c) := (blk_cell q0 0).trans rfl
  have c1 : w1.cell? ⟨w.heap.size + 1, 0, none⟩ = some (.int .i64 0) := (blk_cell q1 0).trans rfl
  replace d0' := (B1.out.cell (World.block_lt_of_cell? w _ d0')).trans d0'
  replace d1' := (B1.out.cell (World.block_lt_of_cell? w _ d1')).trans d1'
  have QB := Aside0.mk (And.intro q0 (And.intro q1 q2))
  have hd0 : ad.block < w1.heap.size := World.block_lt_of_cell? w1 _ d0'
  have hd1 : ad.block < w1.heap.size + 1 := by omega
  have hd2 : ad.block < w1.heap.size + 1 + 1 := by omega
  have hd3 : ad.block < w1.heap.size + 1 + 1 + 1 := by omega
  have hl0 : w.heap.size < w1.heap.size := by omega
  have hl1 : w.heap.size + 1 < w1.heap.size := by omega
  have hl2 : w.heap.size < w1.heap.size + 1 := by omega
  have hl3 : w.heap.size + 1 < w1.heap.size + 1 := by omega
  have hl4 : w.heap.size < w1.heap.size + 1 + 1 := by omega
  have hl5 : w.heap.size + 1 < w1.heap.size + 1 + 1 := by omega
  clear hb1 q0 q1 q2
  go_wp2_with fail
  have KK : Aside0 (RLok (RlSt (w1.heap.size + 1 + 1) w1.heap.size w.heap.size (w.heap.size + 1) (some ad) c l.length w) w (w1.heap.size + 1 + 1 + 1) (w1.heap.size + 1) (w.heap.size + 1 + 1) (w1.heap.size + 1 + 1)) := ⟨{
    keep := fun {W W'} hb hz hbl hs => (rollCb (w1.heap.size + 1 + 1) w1.heap.size w.heap.size (w.heap.size + 1) (w1.heap.size + 1 + 1 + 1) ⟨by omega, by omega, by omega⟩ (some ad) c l r HR.out hn w HC.out (by omega) (by omega) (by omega) (by omega) (by omega)).keep hb hz hbl hs
    set := fun W u hs => ⟨blk_far hs.ok (by show (w1.heap.size + 1 + 1) ≠ (w1.heap.size + 1); omega) u, blk_far hs.fi (by show w1.heap.size ≠ (w1.heap.size + 1); omega) u, blk_far hs.li (by show w.heap.size ≠ (w1.heap.size + 1); omega) u, blk_far hs.gi (by show w.heap.size + 1 ≠ (w1.heap.size + 1); omega) u, hs.bel.trans ((Below.refl _ _).setCell (p := ⟨(w1.heap.size + 1), 0, none⟩) (by show w.heap.size ≤ (w1.heap.size + 1); omega) u)⟩
    b0 := by omega
    b1 := by omega
    b2 := by omega
    b3 := by omega
    b4 := by omega
    n1 := by omega
    n2 := by omega
    n3 := by omega }⟩
  have CC := Aside0.mk (rollCb (w1.heap.size + 1 + 1) w1.heap.size w.heap.size (w.heap.size + 1) (w1.heap.size + 1 + 1 + 1) ⟨by omega, by omega, by omega⟩ (some ad) c l r HR.out hn w HC.out (by omega) (by omega) (by omega) (by omega) (by omega))
  have R0 : Aside0 (RL (RlSt (w1.heap.size + 1 + 1) w1.heap.size w.heap.size (w.heap.size + 1) (some ad) c l.length w) w (w1.heap.size + 1 + 1 + 1) (w1.heap.size + 1) (w.heap.size + 1 + 1) r.f1 (.slice none 0 0) [] (((w1.alloc (.cells #[.int .i64 0] 3)).alloc (.cells #[.slice none 0 0, .bool r.f1] 62)).alloc (.cells #[.bool true] 4))) := ⟨{
    st := ⟨by have h := blk_new ((w1.alloc (.cells #[.int .i64 0] 3)).alloc (.cells #[.slice none 0 0, .bool r.f1] 62)) (.cells #[.bool true] 4); rw [World.size_alloc, World.size_alloc] at h; exact h, blk_alloc (blk_alloc (blk_new w1 _) _) _, blk_alloc (blk_alloc (blk_alloc QB.out.1 _) _) _, blk_alloc (blk_alloc (blk_alloc QB.out.2.1 _) _) _, B1.out.trans ((((Below.refl _ _).alloc B1.out.size _).alloc (by have := B1.out.size; simp; omega) _).alloc (by have := B1.out.size; simp; omega) _)⟩
    out := by have h := blk_alloc (blk_new (w1.alloc (.cells #[.int .i64 0] 3)) (.cells #[.slice none 0 0, .bool r.f1] 62)) (.cells #[.bool true] 4); rw [World.size_alloc] at h; exact h
    res := blk_alloc (blk_alloc (blk_alloc QB.out.2.2 _) _) _
    row := Kd.R_nil _ _ _ _ _
    bel := B1.out.trans ((((Below.refl _ _).alloc B1.out.size _).alloc (by have := B1.out.size; simp; omega) _).alloc (by have := B1.out.size; simp; omega) _)
    hz := by simp }⟩
  clear c0 c1 d0' d1' hl0 hl1 hl2 hl3 hl4 hl5 hd0 hd1 hd2 hd3
  go_loopw [36] (fun i W => ∃ (k : Nat) (v : Value), i = .int .i64 k ∧ k ≤ r.f0.length ∧ RL (RlSt (w1.heap.size + 1 + 1) w1.heap.size w.heap.size (w.heap.size + 1) (some ad) c l.length w) w ((w1.heap.size + 1 + 1 + 1)) (w1.heap.size + 1) (w.heap.size + 1 + 1) r.f1 v ((r.f0.take k).map (tsp rlH)) W) (fun i _ => r.f0.length - (intOf i).toNat)
  case atStart => exact ⟨0, _, rfl, Nat.zero_le _, R0.out⟩
  case round =>
    clear R0
    obtain ⟨k, v, rfl, hk, hRL⟩ := hrel
    have L0 := Aside0.mk hRL
    clear hRL
    by_cases hlk : k < r.f0.length
    · obtain ⟨lo, hlo⟩ : ∃ lo : List S53, lo = (r.f0.take k).map (tsp rlH) := ⟨_, rfl⟩
      rw [← hlo] at L0
      have hll : lo.length ≤ r.f0.length := by rw [hlo, List.length_map, List.length_take]; omega
      have HLO := Aside0.mk hlo
      clear hlo
      obtain ⟨Av, cv, hvo⟩ := Kd.R_slice L0.out.row
      subst hvo
      obtain ⟨ae, A1', c1, A3, c3, A4, c4, A5, c5, ea, d0, d1, d2, d3, d4, d5, n1, r1, n3, r3, n4, r4, n5, r5⟩ := at_T53 HRC.out (k : Int) (by omega) (by omega)
      have HXK := Aside0.mk (rd_ST_at' r.f0 k hlk)
      cases ea
      simp only [Int.toNat_natCast] at d0 d1 d2 d3 d4 d5
      obtain ⟨x, hx⟩ : ∃ x, x = rd_T53 r.f0 (k : Int) := ⟨_, rfl⟩
      rw [← hx] at d0 d1 d2 d3 d4 d5 n1 r1 n3 r3 n4 r4 n5 r5 HXK
      clear hx
      replace d0 := (L0.out.bel.cell (World.block_lt_of_cell? w _ d0)).trans d0
      replace d1 := (L0.out.bel.cell (World.block_lt_of_cell? w _ d1)).trans d1
      replace d2 := (L0.out.bel.cell (World.block_lt_of_cell? w _ d2)).trans d2
      replace d3 := (L0.out.bel.cell (World.block_lt_of_cell? w _ d3)).trans d3
      replace d4 := (L0.out.bel.cell (World.block_lt_of_cell? w _ d4)).trans d4
      replace d5 := (L0.out.bel.cell (World.block_lt_of_cell? w _ d5)).trans d5
      have R1 := Aside0.mk r1
      have R3 := Aside0.mk r3
      have R4 := Aside0.mk r4
      have R5 := Aside0.mk r5
      clear r1 r3 r4 r5
      have kl0 : (0 : Int) ≤ (k : Int) := Int.natCast_nonneg k
      have kl1 : (k : Int) < (r.f0.length : Int) := by omega
      have SI : Aside0 (SOk RollQ x) := ⟨HIN.out x (List.mem_of_getElem? HXK.out)⟩
      have TX : Aside0 (tsub (rlF r.f0.length) true x = (true, tsp rlH x)) := ⟨HTR.out x (List.mem_of_getElem? HXK.out)⟩
      have T0' := L0.out.below KK.out ((Below.refl wr.heap.size wr).alloc (Nat.le_refl _) (.cells #[.bool x.f0, .slice A1' x.f1.length c1, .int .i64 x.f2.f0, .slice A3 x.f2.f1.length c3, .slice A4 x.f2.f2.length c4, .slice A5 x.f2.f3.length c5] 53))
      have T0 : RL _ w ((w1.heap.size + 1 + 1 + 1)) (w1.heap.size + 1) (w.heap.size + 1 + 1) r.f1 (.slice Av lo.length cv) lo (wr.alloc (.cells #[.bool x.f0, .slice A1' x.f1.length c1, .int .i64 x.f2.f0, .slice A3 x.f2.f1.length c3, .slice A4 x.f2.f2.length c4, .slice A5 x.f2.f3.length c5] 53)).drew := T0'.below KK.out ⟨rfl, rfl, rfl, Nat.le_refl _, fun _ _ => rfl⟩
      clear T0'
      have B0 : (wr.alloc (.cells #[.bool x.f0, .slice A1' x.f1.length c1, .int .i64 x.f2.f0, .slice A3 x.f2.f1.length c3, .slice A4 x.f2.f2.length c4, .slice A5 x.f2.f3.length c5] 53)).drew.heap[wr.heap.size]? = some (.cells #[.bool x.f0, .slice A1' x.f1.length c1, .int .i64 x.f2.f0, .slice A3 x.f2.f1.length c3, .slice A4 x.f2.f2.length c4, .slice A5 x.f2.f3.length c5] 53 (0, 0)) := blk_new wr _
      have HSB : Aside0 (some wr.heap.size ≠ some ((w1.heap.size + 1 + 1))) := ⟨by intro e; injection e with e; have := L0.out.hz; have := KK.out.b3; omega⟩
      have HSV : Aside0 (some wr.heap.size ≠ (Value.slice Av lo.length cv).ownBlock) := ⟨fun e => by obtain ⟨_, in_, ho_, _⟩ := L0.out.row; have := own_lt ho_ _ e.symm; omega⟩
      have HSO : Aside0 (wr.heap.size ≠ (w1.heap.size + 1)) := ⟨by have := L0.out.hz; have := KK.out.b1; omega⟩
      go_wp2_with fail
      refine start_ (n := 9) (S := fun w' => w'.cell? ⟨(w1.heap.size + 1), 0, none⟩ = some (.slice Av lo.length cv) ∧ w'.cell? ⟨wr.heap.size, 0, none⟩ = some (.bool x.f0) ∧ w'.cell? ⟨wr.heap.size, 1, none⟩ = some (.slice A1' x.f1.length c1) ∧ w'.cell? ⟨wr.heap.size, 2, none⟩ = some (.int .i64 x.f2.f0) ∧ w'.cell? ⟨wr.heap.size, 3, none⟩ = some (.slice A3 x.f2.f1.length c3) ∧ w'.cell? ⟨wr.heap.size, 4, none⟩ = some (.slice A4 x.f2.f2.length c4) ∧ w'.cell? ⟨wr.heap.size, 5, none⟩ = some (.slice A5 x.f2.f3.length c5)) (ds := [8]) #[false, false, false, false, false, false, false, false, false] (by kernel_rfl) rfl rfl ⟨(blk_cell T0.out 0).trans rfl, (blk_cell B0 0).trans rfl, (blk_cell B0 1).trans rfl, (blk_cell B0 2).trans rfl, (blk_cell B0 3).trans rfl, (blk_cell B0 4).trans rfl, (blk_cell B0 5).trans rfl⟩ (fun hHeld => ?_)
      have hz5 : wr.heap.size + 1 ≤ (wr.alloc (.cells #[.bool x.f0, .slice A1' x.f1.length c1, .int .i64 x.f2.f0, .slice A3 x.f2.f1.length c3, .slice A4 x.f2.f2.length c4, .slice A5 x.f2.f3.length c5] 53)).drew.heap.size := Nat.le_of_eq (World.size_alloc wr (.cells #[.bool x.f0, .slice A1' x.f1.length c1, .int .i64 x.f2.f0, .slice A3 x.f2.f1.length c3, .slice A4 x.f2.f2.length c4, .slice A5 x.f2.f3.length c5] 53)).symm
      generalize World.drew _ = w5 at T0 B0 hHeld hz5 ⊢
      refine pure_ (i := 0) (N := some 40) (v := ?_) (a' := ?_) #[true, false, false, false, false, false, false, false, false] rfl rfl (by kernel_rfl) (fun _ _ _ h => h) (Or.inl ⟨by rfl, ?_⟩) ?_ ?_
      rotate_left
      · intro w'
        go_simp
        with_reducible rfl
      rotate_left
      · simp only [Act.put, List.setIfInBounds_toArray, List.set_cons_zero, List.set_cons_succ, i64_w, i32_w]
        rfl
      refine pure_ (i := 3) (N := some 43) (v := ?_) (a' := ?_) #[true, false, false, true, false, false, false, false, false] rfl rfl (by kernel_rfl) (fun _ _ _ h => h) (Or.inl ⟨by rfl, ?_⟩) ?_ ?_
      rotate_left
      · intro w'
        go_simp
        with_reducible rfl
      rotate_left
      · simp only [Act.put, List.setIfInBounds_toArray, List.set_cons_zero, List.set_cons_succ, i64_w, i32_w]
        rfl
      refine take_ (i := 1) (N := some 41) (v := ?_) (a' := ?_) #[true, true, false, true, false, false, false, false, false] rfl rfl (by kernel_rfl) (fun _ _ _ h => h) (Or.inl ⟨by rfl, ?_⟩) hHeld ?_ ?_
      rotate_left
      · rintro w' ⟨s0, s1, s2, s3, s4, s5, s6⟩
        go_simp
        with_reducible rfl
      rotate_left
      · simp only [Act.put, List.setIfInBounds_toArray, List.set_cons_zero, List.set_cons_succ, i64_w, i32_w]
        rfl
      refine take_ (i := 2) (N := some 42) (v := ?_) (a' := ?_) #[true, true, true, true, false, false, false, false, false] rfl rfl (by kernel_rfl) (fun _ _ _ h => h) (Or.inl ⟨by rfl, ?_⟩) hHeld ?_ ?_
      rotate_left
      · rintro w' ⟨s0, s1, s2, s3, s4, s5, s6⟩
        go_simp
        with_reducible rfl
      rotate_left
      · simp only [Act.put, List.setIfInBounds_toArray, List.set_cons_zero, List.set_cons_succ, i64_w, i32_w]
        rfl
      refine one_ (i := 4) (N := some 44) #[true, true, true, true, true, false, false, false, false] rfl rfl (by kernel_rfl) (by decide) (fun K hK => ?_)
      refine goes_ Tryd.func48 (by kernel_rfl) rfl #[.agg #[.bool x.f0, .slice A1' x.f1.length c1, .int .i64 x.f2.f0, .slice A3 x.f2.f1.length c3, .slice A4 x.f2.f2.length c4, .slice A5 x.f2.f3.length c5], .func (.func 50) #[] #[.pointer (some ⟨w1.heap.size, 0, none⟩), .pointer (some ⟨(w1.heap.size + 1 + 1), 0, none⟩), .pointer (some ⟨w.heap.size, 0, none⟩), .pointer (some ⟨w.heap.size + 1, 0, none⟩)]] (by rfl) rfl rfl (by simp only [List.map_toArray, List.map_cons, List.map_nil]; rfl) ?_
      refine (turned_sub CC.out w true x [.bool x.f0, .slice A1' x.f1.length c1, .int .i64 x.f2.f0, .slice A3 x.f2.f1.length c3, .slice A4 x.f2.f2.length c4, .slice A5 x.f2.f3.length c5] _ T0.hz T0.bel (by intro k_ e_; injection e_ with e_; have := KK.out.b4; omega) T0.st (k53_mk w x n1 R1.out n3 R3.out n4 R4.out n5 R5.out) SI.out).mono ?_
      rintro e w6 ⟨cs', rfl, hM, hS, hgr⟩
      rw [TX.out] at hM hS
      have T1 := T0.call KK.out hS hgr
      have B1 := blk_grown B0 hgr HSB.out
      have hml := k53.M_lower T0.hz (k53.M_bound hM)
      obtain ⟨v1, v3, v4, v5, ecs⟩ : ∃ v1 v3 v4 v5, cs' = [.bool (tsp rlH x).f0, v1, .int .i64 (tsp rlH x).f2.f0, v3, v4, v5] := by obtain ⟨v1, v3, v4, v5, e_, _⟩ := k53_openM hM; exact ⟨v1, v3, v4, v5, e_⟩
      subst ecs
      have HML := Aside0.mk hml
      have HZ6 : Aside0 (∀ k_, some k_ = (Value.slice Av lo.length cv).ownBlock → k_ < wr.heap.size + 1) := ⟨fun k_ e_ => by obtain ⟨_, in_, ho_, _⟩ := L0.out.row; have := own_lt ho_ k_ e_.symm; omega⟩
      refine ⟨_, rfl, ?_⟩
      clear hS hgr hM hml
      refine hK.out _ _ ⟨(blk_cell T1.out 0).trans rfl, (blk_cell B1 0).trans rfl, (blk_cell B1 1).trans rfl, (blk_cell B1 2).trans rfl, (blk_cell B1 3).trans rfl, (blk_cell B1 4).trans rfl, (blk_cell B1 5).trans rfl⟩ (fun hHeld => ?_)
      clear hK K
      refine norm_ (a' := ?_) ?_ ?_
      rotate_left
      · show Act.put _ (some 44) _ = _
        simp only [Act.put, List.setIfInBounds_toArray, List.set_cons_zero, List.set_cons_succ, i64_w, i32_w]
        rfl
      refine one_ (i := 5) (N := some 45) #[true, true, true, true, true, true, false, false, false] rfl rfl (by kernel_rfl) (by decide) (fun K hK => ?_)
      refine value_ (w1 := ?_) (v := ?_) (by rfl) rfl ?_ ?_
      rotate_left 2
      · go_simp
        constructor
        · rfl
        · rfl
      refine hK.out _ _ ⟨(blk_cell (T1.below KK.out ((Below.refl _ _).alloc (Nat.le_refl _) _)).out 0).trans rfl, (blk_cell (blk_alloc B1 _) 0).trans rfl, (blk_cell (blk_alloc B1 _) 1).trans rfl, (blk_cell (blk_alloc B1 _) 2).trans rfl, (blk_cell (blk_alloc B1 _) 3).trans rfl, (blk_cell (blk_alloc B1 _) 4).trans rfl, (blk_cell (blk_alloc B1 _) 5).trans rfl⟩ (fun hHeld => ?_)
      clear hK K
      refine norm_ (a' := ?_) ?_ ?_
      rotate_left
      · show Act.put _ (some 45) _ = _
        simp only [Act.put, List.setIfInBounds_toArray, List.set_cons_zero, List.set_cons_succ, i64_w, i32_w]
        rfl
      refine one_ (i := 6) (N := some 46) #[true, true, true, true, true, true, true, false, false] rfl rfl (by kernel_rfl) (by decide) (fun K hK => ?_)
      refine Kd.R_append_step k53 (w0 := w6) (((w1.heap.size + 1 + 1 + 1))) (by rfl) (.tmp 41) (.tmp 45) 60 53 (.agg #[.bool false, .slice none 0 0, .int .i64 0, .slice none 0 0, .slice none 0 0, .slice none 0 0]) 112 rfl Tryd.underlying60 infoST rfl (by decide) (by omega) (.slice Av lo.length cv) lo (tsp rlH x) [.bool (tsp rlH x).f0, v1, .int .i64 (tsp rlH x).f2.f0, v3, v4, v5] (fun _ => True) _ rfl rfl HML.out (fun k_ hk_ => ⟨trivial, fun e_ => by have h1_ := hk_.2.1; have h2_ := HZ6.out k_ e_; omega⟩) (fun _ _ => trivial) T1.row (Below.refl _ _) T1.hz (by omega) ?_
      intro v5_ w7 ho _ hg hat
      obtain ⟨l5, hl5⟩ : ∃ l_ : List S53, l_ = lo ++ [tsp rlH x] := ⟨_, rfl⟩
      rw [← hl5] at ho
      have HL5 := Aside0.mk hl5
      clear hl5
      obtain ⟨A5', c5', e5'⟩ := Kd.R_slice ho
      subst e5'
      obtain ⟨bo, T3⟩ := T1.app KK.out ho hg
      have B3 := blk_grown B1 hg HSV.out
      have L3 := Aside0.mk T3
      refine hK.out _ _ ⟨(blk_cell bo 0).trans rfl, (blk_cell B3 0).trans rfl, (blk_cell B3 1).trans rfl, (blk_cell B3 2).trans rfl, (blk_cell B3 3).trans rfl, (blk_cell B3 4).trans rfl, (blk_cell B3 5).trans rfl⟩ (fun hHeld => ?_)
      clear hK K
      refine norm_ (a' := ?_) ?_ ?_
      rotate_left
      · show Act.put _ (some 46) _ = _
        simp only [Act.put, List.setIfInBounds_toArray, List.set_cons_zero, List.set_cons_succ, i64_w, i32_w]
        rfl
      refine pure_ (i := 7) (N := some 47) (v := ?_) (a' := ?_) #[true, true, true, true, true, true, true, true, false] rfl rfl (by kernel_rfl) (fun _ _ _ h => h) (Or.inl ⟨by rfl, ?_⟩) ?_ ?_
      rotate_left
      · intro w'
        go_simp
        with_reducible rfl
      rotate_left
      · simp only [Act.put, List.setIfInBounds_toArray, List.set_cons_zero, List.set_cons_succ, i64_w, i32_w]
        rfl
      refine last_ (i := 8) (N := none) #[true, true, true, true, true, true, true, true, true] rfl rfl (by kernel_rfl) (by decide) (fun K hK => ?_)
      have hs_ : w7.cell? ⟨(w1.heap.size + 1), 0, none⟩ = some (.slice Av lo.length cv) := (blk_cell bo 0).trans rfl
      have hfs_ : w7.frozen? ⟨(w1.heap.size + 1), 0, none⟩ = false := blk_frozen bo 0
      refine skip_ (w1 := ?_) (by rfl) rfl ?_ ?_
      rotate_left
      · go_simp
        rfl
      refine hK.out _ _ ?_
      clear hK K
      refine done_ (by kernel_rfl) ?_
      
      go_wp2_with fail
      go_roundw
      case rel => exact ⟨k + 1, _, by go_num, by omega, by have e_ : (r.f0.take (k + 1)).map (tsp rlH) = l5 := (by rw [List.take_add_one, HXK.out, List.map_append, HL5.out, HLO.out]; rfl); rw [e_]; exact L3.out⟩
      case measure => simp [intOf]; omega
    · obtain rfl : k = r.f0.length := by omega
      rw [List.take_length] at L0
      clear hk hlk
      obtain ⟨Av, cv, hvo⟩ := Kd.R_slice L0.out.row
      subst hvo
      rw [List.length_map] at L0
      have x0 : wr.cell? ⟨(w1.heap.size + 1), 0, none⟩ = some (.slice Av r.f0.length cv) := (blk_cell L0.out.out 0).trans rfl
      have x1 : wr.cell? ⟨(w1.heap.size + 1), 1, none⟩ = some (.bool r.f1) := (blk_cell L0.out.out 1).trans rfl
      have x2 : wr.cell? ⟨(w1.heap.size + 1 + 1), 0, none⟩ = some (.bool true) := (blk_cell L0.out.st.ok 0).trans rfl
      have y0 : wr.cell? ⟨(w.heap.size + 1 + 1), 0, none⟩ = some (.slice none 0 0) := (blk_cell L0.out.res 0).trans rfl
      have y1 : wr.cell? ⟨(w.heap.size + 1 + 1), 1, none⟩ = some (.bool false) := (blk_cell L0.out.res 1).trans rfl
      have z0 : wr.frozen? ⟨(w.heap.size + 1 + 1), 0, none⟩ = false := blk_frozen L0.out.res 0
      have z1 : wr.frozen? ⟨(w.heap.size + 1 + 1), 1, none⟩ = false := blk_frozen L0.out.res 1
      go_wp2_with fail
      refine bodyPost_ret (v := .tuple #[.agg #[.slice Av r.f0.length cv, .bool r.f1], .int .i64 0]) ?_ rfl ?_
      · rw [results_cell_tmp rfl]; go_simp
      · have b1 := blk_set L0.out.res 0 (.slice Av r.f0.length cv)
        refine ⟨_, rfl, Kd.R_lower (Kd.R_set (Kd.R_set L0.out.row L0.out.res (by decide) 0 _) b1 (by decide) 1 _) (by have := KK.out.b0; have := KK.out.b1; omega), (L0.out.bel.setCell (p := ⟨(w.heap.size + 1 + 1), 0, none⟩) (by show w.heap.size ≤ (w.heap.size + 1 + 1); omega) _).setCell (p := ⟨(w.heap.size + 1 + 1), 1, none⟩) (by show w.heap.size ≤ (w.heap.size + 1 + 1); omega) _⟩
set_option maxRecDepth 100000 in
set_option maxHeartbeats 16000000 in
theorem unroll_calls (Ar : Option Addr) (cr : Nat) (r : S62) (first : Int) (w : World) (hC : Kd.C k53 w Ar r.f0.length r.f0) (hcr : r.f0.length ≤ cr) (hf : 0 ≤ first ∧ first ≤ 2147483647) (hn : r.f0.length ≤ 1048576) (hin : ∀ s ∈ r.f0, SOk RollQ s) (htr : ∀ s ∈ r.f0, tsub (urF r.f0.length first) true s = (true, tsp (urH first) s)) :
    Calls Tryd.prog 27 #[.agg #[.slice Ar r.f0.length cr, .bool r.f1], .int .i64 first] w (RlOut r.f1 (r.f0.map (tsp (urH first))) w) := by
  have HRC := Aside0.mk hC
  have HIN := Aside0.mk hin
  have HTR := Aside0.mk htr
  have HF := Aside0.mk hf
  obtain ⟨hf0, hf1⟩ := hf
  have CC := Aside0.mk (unrollCb (w.heap.size + 1 + 1 + 1 + 1) w.heap.size (w.heap.size + 1) (w.heap.size + 1 + 1 + 1 + 1 + 1) (by omega) (by omega) #[] Ar r.f0.length cr r.f1 first hn HF.out w (by omega) (by omega) (by omega) (by omega))
  have KK : Aside0 (RLok (UrSt (w.heap.size + 1 + 1 + 1 + 1) w.heap.size (w.heap.size + 1) #[] Ar r.f0.length cr r.f1 first w) w (w.heap.size + 1 + 1 + 1 + 1 + 1) (w.heap.size + 1 + 1 + 1) (w.heap.size + 1 + 1) (w.heap.size + 1 + 1 + 1 + 1)) := ⟨{
    keep := fun {W W'} hb hz hbl hs => CC.out.keep hb hz hbl hs
    set := fun W u hs => ⟨blk_far hs.ok (by show (w.heap.size + 1 + 1 + 1 + 1) ≠ (w.heap.size + 1 + 1 + 1); omega) u, blk_far hs.re (by show w.heap.size ≠ (w.heap.size + 1 + 1 + 1); omega) u, blk_far hs.fi (by show w.heap.size + 1 ≠ (w.heap.size + 1 + 1 + 1); omega) u, hs.bel.trans ((Below.refl _ _).setCell (p := ⟨(w.heap.size + 1 + 1 + 1), 0, none⟩) (by show w.heap.size ≤ (w.heap.size + 1 + 1 + 1); omega) u)⟩
    b0 := by omega
    b1 := by omega
    b2 := by omega
    b3 := by omega
    b4 := by omega
    n1 := by omega
    n2 := by omega
    n3 := by omega }⟩
  have R0 : Aside0 (RL (UrSt (w.heap.size + 1 + 1 + 1 + 1) w.heap.size (w.heap.size + 1) #[] Ar r.f0.length cr r.f1 first w) w (w.heap.size + 1 + 1 + 1 + 1 + 1) (w.heap.size + 1 + 1 + 1) (w.heap.size + 1 + 1) r.f1 (.slice none 0 0) [] (((((w.alloc (.cells #[.slice Ar r.f0.length cr, .bool r.f1] 62)).alloc (.cells #[.int .i64 first] 3)).alloc (.cells #[.slice none 0 0, .bool false] 62)).alloc (.cells #[.slice none 0 0, .bool r.f1] 62)).alloc (.cells #[.bool true] 4))) := by
    have bel : Below w.heap.size w (((((w.alloc (.cells #[.slice Ar r.f0.length cr, .bool r.f1] 62)).alloc (.cells #[.int .i64 first] 3)).alloc (.cells #[.slice none 0 0, .bool false] 62)).alloc (.cells #[.slice none 0 0, .bool r.f1] 62)).alloc (.cells #[.bool true] 4)) := (((((Below.refl _ _).alloc (Nat.le_refl _) _).alloc (by simp) _).alloc (by simp; omega) _).alloc (by simp; omega) _).alloc (by simp; omega) _
    have n1 : ∀ o1 o2, ((w.alloc o1).alloc o2).heap[w.heap.size + 1]? = some o2 := fun o1 o2 => by have := blk_new (w.alloc o1) o2; simpa using this
    have n2 : ∀ o1 o2 o3, (((w.alloc o1).alloc o2).alloc o3).heap[w.heap.size + 1 + 1]? = some o3 := fun o1 o2 o3 => by have := blk_new ((w.alloc o1).alloc o2) o3; simpa using this
    have n3 : ∀ o1 o2 o3 o4, ((((w.alloc o1).alloc o2).alloc o3).alloc o4).heap[w.heap.size + 1 + 1 + 1]? = some o4 := fun o1 o2 o3 o4 => by have := blk_new (((w.alloc o1).alloc o2).alloc o3) o4; simpa using this
    have n4 : ∀ o1 o2 o3 o4 o5, (((((w.alloc o1).alloc o2).alloc o3).alloc o4).alloc o5).heap[w.heap.size + 1 + 1 + 1 + 1]? = some o5 := fun o1 o2 o3 o4 o5 => by have := blk_new ((((w.alloc o1).alloc o2).alloc o3).alloc o4) o5; simpa using this
    exact ⟨{
      st := ⟨n4 _ _ _ _ _, blk_alloc (blk_alloc (blk_alloc (blk_alloc (blk_new w _) _) _) _) _, blk_alloc (blk_alloc (blk_alloc (n1 _ _) _) _) _, bel⟩
      out := blk_alloc (n3 _ _ _ _) _
      res := blk_alloc (blk_alloc (n2 _ _ _) _) _
      row := Kd.R_nil _ _ _ _ _
      bel := bel
      hz := by simp }⟩
  clear hC hin htr
  go_enter Tryd.func27, Tryd.ntmps27
  go_wp2_with fail
  go_loopw [23] (fun i W => ∃ (k : Nat) (v : Value), i = .int .i64 k ∧ k ≤ r.f0.length ∧ RL (UrSt (w.heap.size + 1 + 1 + 1 + 1) w.heap.size (w.heap.size + 1) #[] Ar r.f0.length cr r.f1 first w) w ((w.heap.size + 1 + 1 + 1 + 1 + 1)) (w.heap.size + 1 + 1 + 1) (w.heap.size + 1 + 1) r.f1 v ((r.f0.take k).map (tsp (urH first))) W) (fun i _ => r.f0.length - (intOf i).toNat)
  case atStart => exact ⟨0, _, rfl, Nat.zero_le _, R0.out⟩
  case round =>
    clear R0
    obtain ⟨k, v, rfl, hk, hRL⟩ := hrel
    have L0 := Aside0.mk hRL
    clear hRL
    by_cases hlk : k < r.f0.length
    · obtain ⟨lo, hlo⟩ : ∃ lo : List S53, lo = (r.f0.take k).map (tsp (urH first)) := ⟨_, rfl⟩
      rw [← hlo] at L0
      have hll : lo.length ≤ r.f0.length := by rw [hlo, List.length_map, List.length_take]; omega
      have HLO := Aside0.mk hlo
      clear hlo
      obtain ⟨Av, cv, hvo⟩ := Kd.R_slice L0.out.row
      subst hvo
      obtain ⟨ae, A1', c1, A3, c3, A4, c4, A5, c5, ea, d0, d1, d2, d3, d4, d5, n1, r1, n3, r3, n4, r4, n5, r5⟩ := at_T53 HRC.out (k : Int) (by omega) (by omega)
      have HXK := Aside0.mk (rd_ST_at' r.f0 k hlk)
      cases ea
      simp only [Int.toNat_natCast] at d0 d1 d2 d3 d4 d5
      obtain ⟨x, hx⟩ : ∃ x, x = rd_T53 r.f0 (k : Int) := ⟨_, rfl⟩
      rw [← hx] at d0 d1 d2 d3 d4 d5 n1 r1 n3 r3 n4 r4 n5 r5 HXK
      clear hx
      replace d0 := (L0.out.bel.cell (World.block_lt_of_cell? w _ d0)).trans d0
      replace d1 := (L0.out.bel.cell (World.block_lt_of_cell? w _ d1)).trans d1
      replace d2 := (L0.out.bel.cell (World.block_lt_of_cell? w _ d2)).trans d2
      replace d3 := (L0.out.bel.cell (World.block_lt_of_cell? w _ d3)).trans d3
      replace d4 := (L0.out.bel.cell (World.block_lt_of_cell? w _ d4)).trans d4
      replace d5 := (L0.out.bel.cell (World.block_lt_of_cell? w _ d5)).trans d5
      have R1 := Aside0.mk r1
      have R3 := Aside0.mk r3
      have R4 := Aside0.mk r4
      have R5 := Aside0.mk r5
      clear r1 r3 r4 r5
      have kl0 : (0 : Int) ≤ (k : Int) := Int.natCast_nonneg k
      have kl1 : (k : Int) < (r.f0.length : Int) := by omega
      have SI : Aside0 (SOk RollQ x) := ⟨HIN.out x (List.mem_of_getElem? HXK.out)⟩
      have TX : Aside0 (tsub (urF r.f0.length first) true x = (true, tsp (urH first) x)) := ⟨HTR.out x (List.mem_of_getElem? HXK.out)⟩
      have T0' := L0.out.below KK.out ((Below.refl wr.heap.size wr).alloc (Nat.le_refl _) (.cells #[.bool x.f0, .slice A1' x.f1.length c1, .int .i64 x.f2.f0, .slice A3 x.f2.f1.length c3, .slice A4 x.f2.f2.length c4, .slice A5 x.f2.f3.length c5] 53))
      have T0 : RL _ w ((w.heap.size + 1 + 1 + 1 + 1 + 1)) (w.heap.size + 1 + 1 + 1) (w.heap.size + 1 + 1) r.f1 (.slice Av lo.length cv) lo (wr.alloc (.cells #[.bool x.f0, .slice A1' x.f1.length c1, .int .i64 x.f2.f0, .slice A3 x.f2.f1.length c3, .slice A4 x.f2.f2.length c4, .slice A5 x.f2.f3.length c5] 53)).drew := T0'.below KK.out ⟨rfl, rfl, rfl, Nat.le_refl _, fun _ _ => rfl⟩
      clear T0'
      have B0 : (wr.alloc (.cells #[.bool x.f0, .slice A1' x.f1.length c1, .int .i64 x.f2.f0, .slice A3 x.f2.f1.length c3, .slice A4 x.f2.f2.length c4, .slice A5 x.f2.f3.length c5] 53)).drew.heap[wr.heap.size]? = some (.cells #[.bool x.f0, .slice A1' x.f1.length c1, .int .i64 x.f2.f0, .slice A3 x.f2.f1.length c3, .slice A4 x.f2.f2.length c4, .slice A5 x.f2.f3.length c5] 53 (0, 0)) := blk_new wr _
      have HSB : Aside0 (some wr.heap.size ≠ some ((w.heap.size + 1 + 1 + 1 + 1))) := ⟨by intro e; injection e with e; have := L0.out.hz; have := KK.out.b3; omega⟩
      have HSV : Aside0 (some wr.heap.size ≠ (Value.slice Av lo.length cv).ownBlock) := ⟨fun e => by obtain ⟨_, in_, ho_, _⟩ := L0.out.row; have := own_lt ho_ _ e.symm; omega⟩
      have HSO : Aside0 (wr.heap.size ≠ (w.heap.size + 1 + 1 + 1)) := ⟨by have := L0.out.hz; have := KK.out.b1; omega⟩
      go_wp2_with fail
      refine start_ (n := 9) (S := fun w' => w'.cell? ⟨(w.heap.size + 1 + 1 + 1), 0, none⟩ = some (.slice Av lo.length cv) ∧ w'.cell? ⟨wr.heap.size, 0, none⟩ = some (.bool x.f0) ∧ w'.cell? ⟨wr.heap.size, 1, none⟩ = some (.slice A1' x.f1.length c1) ∧ w'.cell? ⟨wr.heap.size, 2, none⟩ = some (.int .i64 x.f2.f0) ∧ w'.cell? ⟨wr.heap.size, 3, none⟩ = some (.slice A3 x.f2.f1.length c3) ∧ w'.cell? ⟨wr.heap.size, 4, none⟩ = some (.slice A4 x.f2.f2.length c4) ∧ w'.cell? ⟨wr.heap.size, 5, none⟩ = some (.slice A5 x.f2.f3.length c5)) (ds := [8]) #[false, false, false, false, false, false, false, false, false] (by kernel_rfl) rfl rfl ⟨(blk_cell T0.out 0).trans rfl, (blk_cell B0 0).trans rfl, (blk_cell B0 1).trans rfl, (blk_cell B0 2).trans rfl, (blk_cell B0 3).trans rfl, (blk_cell B0 4).trans rfl, (blk_cell B0 5).trans rfl⟩ (fun hHeld => ?_)
      have hz5 : wr.heap.size + 1 ≤ (wr.alloc (.cells #[.bool x.f0, .slice A1' x.f1.length c1, .int .i64 x.f2.f0, .slice A3 x.f2.f1.length c3, .slice A4 x.f2.f2.length c4, .slice A5 x.f2.f3.length c5] 53)).drew.heap.size := Nat.le_of_eq (World.size_alloc wr (.cells #[.bool x.f0, .slice A1' x.f1.length c1, .int .i64 x.f2.f0, .slice A3 x.f2.f1.length c3, .slice A4 x.f2.f2.length c4, .slice A5 x.f2.f3.length c5] 53)).symm
      generalize World.drew _ = w5 at T0 B0 hHeld hz5 ⊢
      refine pure_ (i := 0) (N := some 27) (v := ?_) (a' := ?_) #[true, false, false, false, false, false, false, false, false] rfl rfl (by kernel_rfl) (fun _ _ _ h => h) (Or.inl ⟨by rfl, ?_⟩) ?_ ?_
      rotate_left
      · intro w'
        go_simp
        with_reducible rfl
      rotate_left
      · simp only [Act.put, List.setIfInBounds_toArray, List.set_cons_zero, List.set_cons_succ, i64_w, i32_w]
        rfl
      refine pure_ (i := 3) (N := some 30) (v := ?_) (a' := ?_) #[true, false, false, true, false, false, false, false, false] rfl rfl (by kernel_rfl) (fun _ _ _ h => h) (Or.inl ⟨by rfl, ?_⟩) ?_ ?_
      rotate_left
      · intro w'
        go_simp
        with_reducible rfl
      rotate_left
      · simp only [Act.put, List.setIfInBounds_toArray, List.set_cons_zero, List.set_cons_succ, i64_w, i32_w]
        rfl
      refine take_ (i := 1) (N := some 28) (v := ?_) (a' := ?_) #[true, true, false, true, false, false, false, false, false] rfl rfl (by kernel_rfl) (fun _ _ _ h => h) (Or.inl ⟨by rfl, ?_⟩) hHeld ?_ ?_
      rotate_left
      · rintro w' ⟨s0, s1, s2, s3, s4, s5, s6⟩
        go_simp
        with_reducible rfl
      rotate_left
      · simp only [Act.put, List.setIfInBounds_toArray, List.set_cons_zero, List.set_cons_succ, i64_w, i32_w]
        rfl
      refine take_ (i := 2) (N := some 29) (v := ?_) (a' := ?_) #[true, true, true, true, false, false, false, false, false] rfl rfl (by kernel_rfl) (fun _ _ _ h => h) (Or.inl ⟨by rfl, ?_⟩) hHeld ?_ ?_
      rotate_left
      · rintro w' ⟨s0, s1, s2, s3, s4, s5, s6⟩
        go_simp
        with_reducible rfl
      rotate_left
      · simp only [Act.put, List.setIfInBounds_toArray, List.set_cons_zero, List.set_cons_succ, i64_w, i32_w]
        rfl
      refine one_ (i := 4) (N := some 31) #[true, true, true, true, true, false, false, false, false] rfl rfl (by kernel_rfl) (by decide) (fun K hK => ?_)
      refine goes_ Tryd.func48 (by kernel_rfl) rfl #[.agg #[.bool x.f0, .slice A1' x.f1.length c1, .int .i64 x.f2.f0, .slice A3 x.f2.f1.length c3, .slice A4 x.f2.f2.length c4, .slice A5 x.f2.f3.length c5], .func (.func 51) #[] #[.pointer (some ⟨(w.heap.size + 1 + 1 + 1 + 1), 0, none⟩), .pointer (some ⟨w.heap.size, 0, none⟩), .pointer (some ⟨w.heap.size + 1, 0, none⟩)]] (by rfl) rfl rfl (by simp only [List.map_toArray, List.map_cons, List.map_nil]; rfl) ?_
      refine (turned_sub CC.out w true x [.bool x.f0, .slice A1' x.f1.length c1, .int .i64 x.f2.f0, .slice A3 x.f2.f1.length c3, .slice A4 x.f2.f2.length c4, .slice A5 x.f2.f3.length c5] _ T0.hz T0.bel (by intro k_ e_; injection e_ with e_; have := KK.out.b4; omega) T0.st (k53_mk w x n1 R1.out n3 R3.out n4 R4.out n5 R5.out) SI.out).mono ?_
      rintro e w6 ⟨cs', rfl, hM, hS, hgr⟩
      rw [TX.out] at hM hS
      have T1 := T0.call KK.out hS hgr
      have B1 := blk_grown B0 hgr HSB.out
      have hml := k53.M_lower T0.hz (k53.M_bound hM)
      obtain ⟨v1, v3, v4, v5, ecs⟩ : ∃ v1 v3 v4 v5, cs' = [.bool (tsp (urH first) x).f0, v1, .int .i64 (tsp (urH first) x).f2.f0, v3, v4, v5] := by obtain ⟨v1, v3, v4, v5, e_, _⟩ := k53_openM hM; exact ⟨v1, v3, v4, v5, e_⟩
      subst ecs
      have HML := Aside0.mk hml
      have HZ6 : Aside0 (∀ k_, some k_ = (Value.slice Av lo.length cv).ownBlock → k_ < wr.heap.size + 1) := ⟨fun k_ e_ => by obtain ⟨_, in_, ho_, _⟩ := L0.out.row; have := own_lt ho_ k_ e_.symm; omega⟩
      refine ⟨_, rfl, ?_⟩
      clear hS hgr hM hml
      refine hK.out _ _ ⟨(blk_cell T1.out 0).trans rfl, (blk_cell B1 0).trans rfl, (blk_cell B1 1).trans rfl, (blk_cell B1 2).trans rfl, (blk_cell B1 3).trans rfl, (blk_cell B1 4).trans rfl, (blk_cell B1 5).trans rfl⟩ (fun hHeld => ?_)
      clear hK K
      refine norm_ (a' := ?_) ?_ ?_
      rotate_left
      · show Act.put _ (some 31) _ = _
        simp only [Act.put, List.setIfInBounds_toArray, List.set_cons_zero, List.set_cons_succ, i64_w, i32_w]
        rfl
      refine one_ (i := 5) (N := some 32) #[true, true, true, true, true, true, false, false, false] rfl rfl (by kernel_rfl) (by decide) (fun K hK => ?_)
      refine value_ (w1 := ?_) (v := ?_) (by rfl) rfl ?_ ?_
      rotate_left 2
      · go_simp
        constructor
        · rfl
        · rfl
      refine hK.out _ _ ⟨(blk_cell (T1.below KK.out ((Below.refl _ _).alloc (Nat.le_refl _) _)).out 0).trans rfl, (blk_cell (blk_alloc B1 _) 0).trans rfl, (blk_cell (blk_alloc B1 _) 1).trans rfl, (blk_cell (blk_alloc B1 _) 2).trans rfl, (blk_cell (blk_alloc B1 _) 3).trans rfl, (blk_cell (blk_alloc B1 _) 4).trans rfl, (blk_cell (blk_alloc B1 _) 5).trans rfl⟩ (fun hHeld => ?_)
      clear hK K
      refine norm_ (a' := ?_) ?_ ?_
      rotate_left
      · show Act.put _ (some 32) _ = _
        simp only [Act.put, List.setIfInBounds_toArray, List.set_cons_zero, List.set_cons_succ, i64_w, i32_w]
        rfl
      refine one_ (i := 6) (N := some 33) #[true, true, true, true, true, true, true, false, false] rfl rfl (by kernel_rfl) (by decide) (fun K hK => ?_)
      refine Kd.R_append_step k53 (w0 := w6) (((w.heap.size + 1 + 1 + 1 + 1 + 1))) (by rfl) (.tmp 28) (.tmp 32) 60 53 (.agg #[.bool false, .slice none 0 0, .int .i64 0, .slice none 0 0, .slice none 0 0, .slice none 0 0]) 112 rfl Tryd.underlying60 infoST rfl (by decide) (by omega) (.slice Av lo.length cv) lo (tsp (urH first) x) [.bool (tsp (urH first) x).f0, v1, .int .i64 (tsp (urH first) x).f2.f0, v3, v4, v5] (fun _ => True) _ rfl rfl HML.out (fun k_ hk_ => ⟨trivial, fun e_ => by have h1_ := hk_.2.1; have h2_ := HZ6.out k_ e_; omega⟩) (fun _ _ => trivial) T1.row (Below.refl _ _) T1.hz (by omega) ?_
      intro v5_ w7 ho _ hg hat
      obtain ⟨l5, hl5⟩ : ∃ l_ : List S53, l_ = lo ++ [tsp (urH first) x] := ⟨_, rfl⟩
      rw [← hl5] at ho
      have HL5 := Aside0.mk hl5
      clear hl5
      obtain ⟨A5', c5', e5'⟩ := Kd.R_slice ho
      subst e5'
      obtain ⟨bo, T3⟩ := T1.app KK.out ho hg
      have B3 := blk_grown B1 hg HSV.out
      have L3 := Aside0.mk T3
      refine hK.out _ _ ⟨(blk_cell bo 0).trans rfl, (blk_cell B3 0).trans rfl, (blk_cell B3 1).trans rfl, (blk_cell B3 2).trans rfl, (blk_cell B3 3).trans rfl, (blk_cell B3 4).trans rfl, (blk_cell B3 5).trans rfl⟩ (fun hHeld => ?_)
      clear hK K
      refine norm_ (a' := ?_) ?_ ?_
      rotate_left
      · show Act.put _ (some 33) _ = _
        simp only [Act.put, List.setIfInBounds_toArray, List.set_cons_zero, List.set_cons_succ, i64_w, i32_w]
        rfl
      refine pure_ (i := 7) (N := some 34) (v := ?_) (a' := ?_) #[true, true, true, true, true, true, true, true, false] rfl rfl (by kernel_rfl) (fun _ _ _ h => h) (Or.inl ⟨by rfl, ?_⟩) ?_ ?_
      rotate_left
      · intro w'
        go_simp
        with_reducible rfl
      rotate_left
      · simp only [Act.put, List.setIfInBounds_toArray, List.set_cons_zero, List.set_cons_succ, i64_w, i32_w]
        rfl
      refine last_ (i := 8) (N := none) #[true, true, true, true, true, true, true, true, true] rfl rfl (by kernel_rfl) (by decide) (fun K hK => ?_)
      have hs_ : w7.cell? ⟨(w.heap.size + 1 + 1 + 1), 0, none⟩ = some (.slice Av lo.length cv) := (blk_cell bo 0).trans rfl
      have hfs_ : w7.frozen? ⟨(w.heap.size + 1 + 1 + 1), 0, none⟩ = false := blk_frozen bo 0
      refine skip_ (w1 := ?_) (by rfl) rfl ?_ ?_
      rotate_left
      · go_simp
        rfl
      refine hK.out _ _ ?_
      clear hK K
      refine done_ (by kernel_rfl) ?_
      
      go_wp2_with fail
      go_roundw
      case rel => exact ⟨k + 1, _, by go_num, by omega, by have e_ : (r.f0.take (k + 1)).map (tsp (urH first)) = l5 := (by rw [List.take_add_one, HXK.out, List.map_append, HL5.out, HLO.out]; rfl); rw [e_]; exact L3.out⟩
      case measure => simp [intOf]; omega
    · obtain rfl : k = r.f0.length := by omega
      rw [List.take_length] at L0
      clear hk hlk
      obtain ⟨Av, cv, hvo⟩ := Kd.R_slice L0.out.row
      subst hvo
      rw [List.length_map] at L0
      have x0 : wr.cell? ⟨(w.heap.size + 1 + 1 + 1), 0, none⟩ = some (.slice Av r.f0.length cv) := (blk_cell L0.out.out 0).trans rfl
      have x1 : wr.cell? ⟨(w.heap.size + 1 + 1 + 1), 1, none⟩ = some (.bool r.f1) := (blk_cell L0.out.out 1).trans rfl
      have x2 : wr.cell? ⟨(w.heap.size + 1 + 1 + 1 + 1), 0, none⟩ = some (.bool true) := (blk_cell L0.out.st.ok 0).trans rfl
      have y0 : wr.cell? ⟨(w.heap.size + 1 + 1), 0, none⟩ = some (.slice none 0 0) := (blk_cell L0.out.res 0).trans rfl
      have y1 : wr.cell? ⟨(w.heap.size + 1 + 1), 1, none⟩ = some (.bool false) := (blk_cell L0.out.res 1).trans rfl
      have z0 : wr.frozen? ⟨(w.heap.size + 1 + 1), 0, none⟩ = false := blk_frozen L0.out.res 0
      have z1 : wr.frozen? ⟨(w.heap.size + 1 + 1), 1, none⟩ = false := blk_frozen L0.out.res 1
      go_wp2_with fail
      refine bodyPost_ret (v := .tuple #[.agg #[.slice Av r.f0.length cv, .bool r.f1], .int .i64 0]) ?_ rfl ?_
      · rw [results_cell_tmp rfl]; go_simp
      · have b1 := blk_set L0.out.res 0 (.slice Av r.f0.length cv)
        refine ⟨_, rfl, Kd.R_lower (Kd.R_set (Kd.R_set L0.out.row L0.out.res (by decide) 0 _) b1 (by decide) 1 _) (by have := KK.out.b0; have := KK.out.b1; omega), (L0.out.bel.setCell (p := ⟨(w.heap.size + 1 + 1), 0, none⟩) (by show w.heap.size ≤ (w.heap.size + 1 + 1); omega) _).setCell (p := ⟨(w.heap.size + 1 + 1), 1, none⟩) (by show w.heap.size ≤ (w.heap.size + 1 + 1); omega) _⟩
end Go.Proofs.YtfgglniigeagdaaDoor.Cn
namespace Go.Proofs.YtfgglniigeagdaaDoor.QD
open Go.RowKit Go.Proofs.YtfgglniigeagdaaDoorW.PrintWords Go.Proofs.YtfgglniigeagdaaDoorW.PrintLast Go.Proofs.YtfgglniigeagdaaDoorW.PrintMore
attribute [local go_sem] max2_int min2_int max_two min_two max_three min_three max_four min_four 
set_option linter.unusedVariables false
set_option linter.unusedSimpArgs false
theorem eqA74 (d : Nat) (w : World) (x0 y0 : Int) (x1 y1 : Bool) (x2 y2 : Int) :
    (Op.equalIn (d + 2) 74 (.agg #[.int .i64 x0, .bool x1, .int .i64 x2]) (.agg #[.int .i64 y0, .bool y1, .int .i64 y2])).run Tryd.prog w = .ok (x0 == y0 && (x1 == y1 && (x2 == y2))) w := by
  refine eqA_of Tryd.underlying74 (by kernel_rfl) ?_
  refine eqf_cons (by rfl) (by go_simp; rfl) (by go_simp; rfl) (by go_simp) ?_
  refine eqf_cons (by rfl) (by go_simp; rfl) (by go_simp; rfl) (by go_simp) ?_
  exact eqf_last (by rfl) (by go_simp; rfl) (by go_simp; rfl) (by go_simp)
end Go.Proofs.YtfgglniigeagdaaDoor.QD
namespace Go.Proofs.YtfgglniigeagdaaDoor.QD
open Go.RowKit Go.Proofs.YtfgglniigeagdaaDoorW.PrintWords Go.Proofs.YtfgglniigeagdaaDoorW.PrintLast Go.Proofs.YtfgglniigeagdaaDoorW.PrintMore
attribute [local go_sem] max2_int min2_int max_two min_two max_three min_three max_four min_four 
set_option linter.unusedVariables false
set_option linter.unusedSimpArgs false
theorem eqA118 (d : Nat) (w : World) (x0 y0 : Int) (x1 y1 : Bool) (x2 y2 : Int) (x3 y3 : Bool) :
    (Op.equalIn (d + 3) 118 (.agg #[.int .i64 x0, .bool x1, .int .i64 x2, .bool x3]) (.agg #[.int .i64 y0, .bool y1, .int .i64 y2, .bool y3])).run Tryd.prog w = .ok ((x0 == y0 && (x1 == y1 && (x2 == y2))) && (x3 == y3)) w := by
  refine eqA_of Tryd.underlying118 (by kernel_rfl) ?_
  refine eqf_cons (by rfl) (by go_simp) (by go_simp) (eqA74 (d + 0) w _ _ _ _ _ _) ?_
  exact eqf_last (by rfl) (by go_simp; rfl) (by go_simp; rfl) (by go_simp)
end Go.Proofs.YtfgglniigeagdaaDoor.QD
