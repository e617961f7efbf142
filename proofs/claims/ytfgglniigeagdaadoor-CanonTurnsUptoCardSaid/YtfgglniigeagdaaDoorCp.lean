/- A table that no call made: what its methods answer. parts.copied: what its walk keeps. -/
import Derived.Test.YtfgglniigeagdaaDoorCd
import Derived.Laws.ResultCell
import Derived.Maps.RangeWalk
import Derived.Maps.Ext
import Derived.Sort.MapsRangeIn
/- A table that no call made: what its methods answer. -/
namespace Go.Proofs.YtfgglniigeagdaaDoor.Cn
set_option linter.unusedSimpArgs false
set_option linter.unusedVariables false
open Go.RowKit Go.Maps Go.Proofs.YtfgglniigeagdaaDoorW.PrintWords Go.Proofs.YtfgglniigeagdaaDoorW.PrintLast Go.Proofs.YtfgglniigeagdaaDoorW.PrintMore Go.Proofs.YtfgglniigeagdaaDoor.QD
/-- e is the answer v, and elder memory is as it was. -/
def RetB (v : Value) (w : World) (e : Ending) (w' : World) : Prop := e = .returned v ∧ Below w.heap.size w w'
/-- p is nil, or leads to a table that was not made. -/
inductive Zt (w : World) : Value → Prop
  | nil : Zt w (.pointer none)
  | cell (g : Nat) (h : w.cell? ⟨g, 3, none⟩ = some (.bool false)) : Zt w (.pointer (some ⟨g, 0, none⟩))
theorem Zt.below {w w' : World} {p : Value} (h : Zt w p) (hb : Below w.heap.size w w') : Zt w' p := by
  cases h with
  | nil => exact .nil
  | cell g h => exact .cell g ((hb.cell (World.block_lt_of_cell? w _ h)).trans h)
theorem Zt.alloc {w : World} {p : Value} (h : Zt w p) (o : Obj) : Zt (w.alloc o) p := h.below ((Below.refl _ _).alloc (Nat.le_refl _) o)
set_option maxRecDepth 100000 in
theorem none_zero {p : Value} (w : World) (h : Zt w p) : Calls Tryd.prog 43 #[p] w fun e w' => e = .returned (.bool true) ∧ w' = w := by
  cases h with
  | nil =>
    go_enter Tryd.func43, Tryd.ntmps43
    go_wp2_with fail
    go_ret
    exact ⟨rfl, rfl⟩
  | cell g h =>
    go_enter Tryd.func43, Tryd.ntmps43
    go_wp2_with fail
    go_ret
    exact ⟨rfl, rfl⟩
set_option maxRecDepth 100000 in
theorem none_made (g : Nat) (w : World) (h : w.cell? ⟨g, 3, none⟩ = some (.bool true)) : Calls Tryd.prog 43 #[.pointer (some ⟨g, 0, none⟩)] w fun e w' => e = .returned (.bool false) ∧ w' = w := by
  go_enter Tryd.func43, Tryd.ntmps43
  go_wp2_with fail
  go_ret
  exact ⟨rfl, rfl⟩
set_option maxRecDepth 100000 in
theorem add_zero' {p : Value} (A : Option Addr) (n c : Nat) (w : World) (h : Zt w p) : Calls Tryd.prog 19 #[p, .slice A n c] w (RetB (.tuple #[.slice none 0 0, .int .i64 0, .int .i64 7]) w) := by
  have H := Aside0.mk h
  clear h
  go_enter Tryd.func19, Tryd.ntmps19
  go_wp2_with (go_at_call 43; refine (none_zero _ H.out).mono ?_; rintro e w' ⟨rfl, rfl⟩)
  go_ret3
  exact ⟨rfl, Below.refl _ _⟩
set_option maxRecDepth 100000 in
theorem count_zero {p : Value} (w : World) (h : Zt w p) : Calls Tryd.prog 23 #[p] w fun e w' => e = .returned (.int .i64 0) ∧ w' = w := by
  have H := Aside0.mk h
  clear h
  go_enter Tryd.func23, Tryd.ntmps23
  go_wp2_with (go_at_call 43; refine (none_zero _ H.out).mono ?_; rintro e w' ⟨rfl, rfl⟩)
  go_ret
  exact ⟨rfl, rfl⟩
set_option maxRecDepth 100000 in
theorem copy_zero {p : Value} (w : World) (h : Zt w p) : Calls Tryd.prog 24 #[p] w fun e w' => e = .returned (.pointer none) ∧ w' = w := by
  have H := Aside0.mk h
  clear h
  go_enter Tryd.func24, Tryd.ntmps24
  go_wp2_with (go_at_call 43; refine (none_zero _ H.out).mono ?_; rintro e w' ⟨rfl, rfl⟩)
  go_ret
  exact ⟨rfl, rfl⟩
set_option maxRecDepth 100000 in
theorem find_zero' {p : Value} (i : Int) (w : World) (h : Zt w p) : Calls Tryd.prog 45 #[p, .int .i64 i] w (RetB (.tuple #[.agg #[.int .i64 0, .slice none 0 0], .int .i64 7]) w) := by
  have H := Aside0.mk (h.alloc (.cells #[.int .i64 0, .slice none 0 0] 93))
  clear h
  go_enter Tryd.func45, Tryd.ntmps45
  go_wp2_with (go_at_call 43; refine (none_zero _ H.out).mono ?_; rintro e w' ⟨rfl, rfl⟩)
  refine bodyPost_ret (v := .tuple #[.agg #[.int .i64 0, .slice none 0 0], .int .i64 7]) ?_ rfl ⟨rfl, ?_⟩
  · rw [results_cell_tmp rfl]
    go_simp
  · exact (Below.refl w.heap.size w).alloc (Nat.le_refl _) _
set_option maxRecDepth 100000 in
theorem group_zero {p : Value} (i : Int) (w : World) (h : Zt w p) : Calls Tryd.prog 22 #[p, .int .i64 i] w (RetB (.tuple #[.int .i64 0, .int .i64 0, .int .i64 7]) w) := by
  have H := Aside0.mk h
  clear h
  go_enter Tryd.func22, Tryd.ntmps22
  go_wp2_with (go_at_call 45; refine (find_zero' i _ H.out).mono ?_; rintro e w1 ⟨rfl, hb1⟩)
  go_ret3
  exact ⟨rfl, hb1.trans ((Below.refl _ _).alloc hb1.size _)⟩
set_option maxRecDepth 100000 in
theorem type_zero {p : Value} (i : Int) (w : World) (h : Zt w p) : Calls Tryd.prog 21 #[p, .int .i64 i] w (RetB (.tuple #[.agg #[.bool false, .slice none 0 0, .int .i64 0, .slice none 0 0, .slice none 0 0, .slice none 0 0], .int .i64 7]) w) := by
  have H := Aside0.mk (h.alloc (.cells #[.bool false, .slice none 0 0, .int .i64 0, .slice none 0 0, .slice none 0 0, .slice none 0 0] 53))
  clear h
  go_enter Tryd.func21, Tryd.ntmps21
  go_wp2_with (go_at_call 45; refine (find_zero' i _ H.out).mono ?_; rintro e w1 ⟨rfl, hb1⟩; have hbx := blk_below (blk_new w (.cells #[.bool false, .slice none 0 0, .int .i64 0, .slice none 0 0, .slice none 0 0, .slice none 0 0] 53)) hb1; have c0 : w1.cell? ⟨w.heap.size, 0, none⟩ = some (.bool false) := (blk_cell hbx 0).trans rfl; have c1 : w1.cell? ⟨w.heap.size, 1, none⟩ = some (.slice none 0 0) := (blk_cell hbx 1).trans rfl; have c2 : w1.cell? ⟨w.heap.size, 2, none⟩ = some (.int .i64 0) := (blk_cell hbx 2).trans rfl; have c3 : w1.cell? ⟨w.heap.size, 3, none⟩ = some (.slice none 0 0) := (blk_cell hbx 3).trans rfl; have c4 : w1.cell? ⟨w.heap.size, 4, none⟩ = some (.slice none 0 0) := (blk_cell hbx 4).trans rfl; have c5 : w1.cell? ⟨w.heap.size, 5, none⟩ = some (.slice none 0 0) := (blk_cell hbx 5).trans rfl; have f0 : w1.frozen? ⟨w.heap.size, 0, none⟩ = false := blk_frozen hbx 0; have f1 : w1.frozen? ⟨w.heap.size, 1, none⟩ = false := blk_frozen hbx 1; have f2 : w1.frozen? ⟨w.heap.size, 2, none⟩ = false := blk_frozen hbx 2; have f3 : w1.frozen? ⟨w.heap.size, 3, none⟩ = false := blk_frozen hbx 3; have f4 : w1.frozen? ⟨w.heap.size, 4, none⟩ = false := blk_frozen hbx 4; have f5 : w1.frozen? ⟨w.heap.size, 5, none⟩ = false := blk_frozen hbx 5; have hlt : w.heap.size < w1.heap.size := blk_lt hbx; have hne : w.heap.size ≠ w1.heap.size := Nat.ne_of_lt hlt; have HBX := Aside0.mk hbx; have HB1 := Aside0.mk hb1; clear hbx hb1)
  refine bodyPost_ret (v := .tuple #[.agg #[.bool false, .slice none 0 0, .int .i64 0, .slice none 0 0, .slice none 0 0, .slice none 0 0], .int .i64 7]) ?_ rfl ⟨rfl, ?_⟩
  · rw [results_cell_tmp rfl]
    go_simp
  · have hB : Below w.heap.size w w1 := ((Below.refl _ _).alloc (Nat.le_refl _) _).trans (HB1.out.mono (by simp))
    exact ((((((hB.setCell (Nat.le_refl _) _).setCell (Nat.le_refl _) _).setCell (Nat.le_refl _) _).setCell (Nat.le_refl _) _).setCell (Nat.le_refl _) _).setCell (Nat.le_refl _) _).alloc (by simp; omega) _
theorem new_tb (w : World) (htab : Lib.TabBelow Tryd.prog w.heap.size w "internal/strconv.uint64pow10" .u64 Lib.pow10Tab) : TB w.heap.size (w.heap.size + 1) 47 [.bool true] (fun _ => True) [] (.slice none 0 0) w.heap.size (.map []) ((w.alloc (.map #[] 0)).alloc (.cells #[.slice none 0 0, .map (some w.heap.size), .int .i64 0, .bool true] 47)) where
  box := by have h := blk_new (w.alloc (.map #[] 0)) (.cells #[.slice none 0 0, .map (some w.heap.size), .int .i64 0, .bool true] 47); rw [World.size_alloc] at h; exact h
  row := Kd.R_nil _ _ _ _ _
  map := (World.ownsMap_made w _ _ _).alloc _
  pm := PM.nil
  hg := Nat.le_succ _
  hb := Nat.le_refl _
  tab := htab.on (((Below.refl _ _).alloc (Nat.le_refl _) _).alloc (by simp) _)
set_option maxRecDepth 100000 in
theorem new_calls (w : World) (htab : Lib.TabBelow Tryd.prog w.heap.size w "internal/strconv.uint64pow10" .u64 Lib.pow10Tab) :
    Calls Tryd.prog 18 #[] w fun e w' => e = .returned (.pointer (some ⟨w.heap.size + 1, 0, none⟩)) ∧ TB w.heap.size (w.heap.size + 1) 47 [.bool true] (fun _ => True) [] (.slice none 0 0) w.heap.size (.map []) w' ∧ Below w.heap.size w w' := by
  have HT := Aside0.mk htab
  clear htab
  have hmm := @run_makeMap Tryd.prog
  go_enter Tryd.func18, Tryd.ntmps18
  go_wp2_with fail
  go_ret
  refine ⟨rfl, ?_, ((Below.refl _ _).alloc (Nat.le_refl _) _).alloc (by simp) _⟩
  exact new_tb w HT.out
end Go.Proofs.YtfgglniigeagdaaDoor.Cn
/- parts.copied: what its walk keeps. -/
namespace Go.Proofs.YtfgglniigeagdaaDoor.Cn
set_option linter.unusedSimpArgs false
set_option linter.unusedVariables false
open Go.RowKit Go.Maps Go.Proofs.YtfgglniigeagdaaDoorW.PrintWords Go.Proofs.YtfgglniigeagdaaDoorW.PrintLast Go.Proofs.YtfgglniigeagdaaDoorW.PrintMore Go.Proofs.YtfgglniigeagdaaDoor.QD
/-- The range's step: string keys, int elements. -/
theorem next_ranges_si {H : Type} {P : Program} (w : World) {ops : Array Oper} {rest : List Oper} {o : Oper} {a : Act} {Q : Exit → Act → World → Prop}
    (hg : o.guard = none) (it : Operand) (hop : o.op = Op.next it false) (k e : TypeId) (qe : IntKind) (K : Keyed P k) (hk : P.underlying k = some .string) (he : P.underlying e = some (.int qe))
    (b r n : Nat) (D : DataW H) (left : Lit → Bool) (cnt : Nat) (hit : a.eval it = .pointer (some ⟨r, 0, none⟩)) (h : w.ranges P k (plainElem P e) b r n D left cnt)
    (hDone : cnt = 0 → (∀ kl, left kl = false) → wpList P ops Q rest (a.put o.dst (.tuple #[.bool false])) w)
    (hMore : ∀ (s : ByteArray) (c : Int) (w' : World) (cnt' : Nat), keyOf P k (.string s) = some (.string s.data.toList) → (Lit.int qe c).wf = true → left (.string s.data.toList) = true → (∀ zd, D.atKey (.string s.data.toList) zd = .lit (.int qe c)) → w'.ranges P k (plainElem P e) b r n D (fun z => left z && !z.sameKey (.string s.data.toList)) cnt' → cnt' < cnt →
      w.grownBy w' (some r) → w'.heap.size = w.heap.size → (Instr.entry (.pointer (some ⟨r, 0, none⟩))).run P w' = .ok (.tuple #[.string s, .int qe c]) w' → wpList P ops Q rest (a.put o.dst (.tuple #[.bool true, .string s, .int qe c])) w') :
    wpList P ops Q (o :: rest) a w :=
  wpList_next_ranges w hg it hop k K (plainElem P e) Value.string (Value.int qe) (fun key kl hkey => Maps.keyOf_string_inv hk hkey) (fun v y hv => by obtain ⟨c, rfl, _⟩ := plainElem_int_inv he hv; exact ⟨c, rfl⟩)
    b r n D left cnt hit h hDone (fun x c kl y w' cnt' hkey hlk hv hat hrg hlt hgr hsz hen => by
      obtain ⟨c', ec, ey, hwc⟩ := plainElem_int_inv he hv
      cases ec
      subst ey
      have hs : kl = .string x.data.toList := by
        simp [keyOf, hk, mapKey] at hkey
        exact hkey.2.symm
      subst hs
      exact hMore x c w' cnt' hkey hwc hlk hat hrg hlt hgr hsz hen)
/-- Behind the region that copies: the row of groups is copied, there is a new map (empty) and a new block. -/
structure CG (w0 : World) (B : Nat) (l : List (Int × List S53)) (v bm q : Option Value) (W : World) : Prop where
  bel : Below w0.heap.size w0 W
  row : ∀ v', v = some v' → Kd.R kFam 93 W B (fun _ => True) v' l
  map : ∀ u, bm = some u → ∃ k, u = .map (some k) ∧ W.heap[k]? = some (.map #[] 0) ∧ w0.heap.size ≤ k
  box : ∀ u, q = some u → ∃ k, u = .pointer (some ⟨k, 0, none⟩) ∧ W.heap[k]? = some (.cells #[.slice none 0 0, .map none, .int .i64 0] 45 (0, 0)) ∧ w0.heap.size ≤ k
section
variable {w0 W W' : World} {B : Nat} {l : List (Int × List S53)} {v bm q : Option Value}
theorem CG.start (w0 : World) (B : Nat) (l : List (Int × List S53)) : CG w0 B l none none none w0 := ⟨Below.refl _ _, (fun _ h => by cases h), (fun _ h => by cases h), (fun _ h => by cases h)⟩
theorem CG.below (h : CG w0 B l v bm q W) (hb : Below W.heap.size W W') : CG w0 B l v bm q W' :=
  ⟨h.bel.trans (hb.mono h.bel.size), fun v' e => Kd.R_below (h.row v' e) hb, fun u e => by obtain ⟨k, e1, e2, e3⟩ := h.map u e; exact ⟨k, e1, (hb.block k (Array.getElem?_eq_some_iff.1 e2).1).trans e2, e3⟩, fun u e => by obtain ⟨k, e1, e2, e3⟩ := h.box u e; exact ⟨k, e1, blk_below e2 hb, e3⟩⟩
theorem CG.mm (h : CG w0 B l v none q W) : CG w0 B l v (some (.map (some W.heap.size))) q (W.alloc (.map #[] 0)) :=
  { h.below ((Below.refl _ _).alloc (Nat.le_refl _) _) with map := fun u e => ⟨W.heap.size, by injection e with e; exact e.symm, (MapKept.heap_alloc W _).1, h.bel.size⟩ }
theorem CG.al (h : CG w0 B l v bm none W) : CG w0 B l v bm (some (.pointer (some ⟨W.heap.size, 0, none⟩))) (W.alloc (.cells #[.slice none 0 0, .map none, .int .i64 0] 45)) :=
  { h.below ((Below.refl _ _).alloc (Nat.le_refl _) _) with box := fun u e => ⟨W.heap.size, by injection e with e; exact e.symm, blk_new W _, h.bel.size⟩ }
theorem CG.app (h : CG w0 B l none bm q W) {v' : Value} (hr : Kd.R kFam 93 W' B (fun _ => True) v' l) (hg : W.grownBy W' none) : CG w0 B l (some v') bm q W' :=
  { h.below (bel_of_grown hg (Nat.le_refl _) (by intro k e; cases e)) with row := fun u e => by injection e with e; subst e; exact hr }
theorem CG.cell (h : CG w0 B l v bm q W) {p : Addr} {u : Value} (hc : w0.cell? p = some u) : W.cell? p = some u := (h.bel.cell (World.block_lt_of_cell? w0 p hc)).trans hc
theorem CG.size (h : CG w0 B l v bm q W) : w0.heap.size ≤ W.heap.size := h.bel.size
end
theorem copy_step {ops : Array Oper} {o : Oper} {a : Act} {Q : Exit → Act → World → Prop} {Kc : Act → World → Prop} {w5 W : World} {B : Nat} {l : List (Int × List S53)} {bm q : Option Value} {A : Option Addr} {c : Nat} {s x : Operand} (G : CG w5 B l none bm q W) (HR : Kd.R kFam 93 w5 B (fun _ => True) (.slice A l.length c) l) (hB : B ≤ w5.heap.size)
    (hw : Region.wanted o (yielded ops a.tmps) = true) (ho : o.op = .call { callee := .builtin .append, args := #[s, x], argTypes := #[42, 42] }) (hs : a.eval s = .slice none 0 0) (hx : a.eval x = .slice A l.length c) (hl : l.length * 32 ≤ 140737488355328)
    (h : ∀ v1 w1, CG w5 B l (some v1) bm q w1 → Kc (a.put o.dst v1) w1) :
    if Region.wanted o (yielded ops a.tmps) = true then Oper.wp Tryd.prog o a W Kc Q else Kc (a.put o.dst undef) W := by
  obtain ⟨A', c', e1, _, hr⟩ := OwnRow.reads (Kd.R_below HR G.bel).2
  injection e1 with e1 e2 e3
  subst e1
  refine Kd.R_append_rows_step kFam (w0 := W) B hw s x 42 93 (.agg #[.int .i64 0, .slice none 0 0]) 32 ho Tryd.underlying42 infoFam rfl (by decide) (by decide) (.slice none 0 0) [] l A l.length c (fun _ => True) (fun _ => True) hs hx (Kd.R_nil _ _ _ _ _) hr (fun _ _ hm => kFam.M_mono (fun _ _ => trivial) hm) (fun k _ => ⟨trivial, by simp [Value.ownBlock]⟩) (fun _ _ => trivial) (Below.refl _ _) (Nat.le_trans hB G.size) (by simpa using hl) ?_
  intro v1 w1 hr1 _ hg _
  rw [List.nil_append] at hr1
  exact h v1 w1 (G.app hr1 hg)
/-- The loop over the map that is copied: it: the iterator. -/
structure CL (w : World) (B : Nat) (l : List (Int × List S53)) (v : Value) (mg : Int) (b bm q it : Nat) (W : World) : Prop where
  bel : Below w.heap.size w W
  row : Kd.R kFam 93 W B (fun k => k ≠ bm ∧ k ≠ it) v l
  box : W.heap[q]? = some (.cells #[v, .map (some bm), .int .i64 mg] 45 (0, 0))
  res : W.heap[w.heap.size]? = some (.cells #[.slice none 0 0, .map none, .int .i64 0] 45 (0, 0))
theorem CL.grown {w W W' : World} {B : Nat} {l : List (Int × List S53)} {v : Value} {mg : Int} {b bm q it : Nat} (h : CL w B l v mg b bm q it W) {r : Nat} (hg : W.grownBy W' (some r)) (hr : r = bm ∨ r = it) (hn : w.heap.size < r) (hq : q ≠ r) : CL w B l v mg b bm q it W' :=
  ⟨h.bel.trans (bel_of_grown hg h.bel.size (fun k e => by injection e with e; omega)), Kd.R_grown h.row hg (fun k hk e => by injection e with e; have h1 := hk.1; have h2 := hk.2; omega), blk_grown h.box hg (by intro e; injection e with e; exact hq e), blk_grown h.res hg (by intro e; injection e with e; omega)⟩
end Go.Proofs.YtfgglniigeagdaaDoor.Cn
