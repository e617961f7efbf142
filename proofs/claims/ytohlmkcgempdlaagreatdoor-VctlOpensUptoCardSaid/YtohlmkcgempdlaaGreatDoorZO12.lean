/- Parts of the proof of vctlOpens_holds (12 of 22): what it says and shows stands at its declarations. -/
import Derived.Test.YtohlmkcgempdlaaGreatDoorZO11
import Derived.Laws.ResultCell
import Derived.Maps.RangeWalk
import Derived.Maps.Ext
import Derived.Sort.MapsRangeIn
import Derived.LoopTactic
namespace Go.Proofs.YtohlmkcgempdlaaGreatDoor.Cn
set_option linter.unusedSimpArgs false
set_option maxRecDepth 100000
set_option linter.unusedVariables false
open Go.RowKit Go.Maps Go.Proofs.YtohlmkcgempdlaaGreatDoorW.PrintWords Go.Proofs.YtohlmkcgempdlaaGreatDoorW.PrintLast Go.Proofs.YtohlmkcgempdlaaGreatDoorW.PrintMore Go.Proofs.YtohlmkcgempdlaaGreatDoor.QD
theorem Ch1 (g : Nat) (w : World) (h : w.cell? ⟨g, 3, none⟩ = some (.bool true)) : Calls Tryz.prog 162 #[.pointer (some ⟨g, 0, none⟩)] w fun e w' => e = .returned (.bool false) ∧ w' = w := by
 go_enter Tryz.func162, Tryz.ntmps162
 go_wp2_with fail
 go_ret
 exact ⟨rfl, rfl⟩
theorem new_tb (w : World) (htab : Lib.TabBelow Tryz.prog w.heap.size w "internal/strconv.uint64pow10" .u64 Lib.pow10Tab) : TB w.heap.size (w.heap.size + 1) 228 [.bool true] (fun _ => True) [] (.slice none 0 0) w.heap.size (.map []) ((w.alloc (.map #[] 0)).alloc (.cells #[.slice none 0 0, .map (some w.heap.size), .int .i64 0, .bool true] 228)) where
 box := by have h := Aa6 (w.alloc (.map #[] 0)) (.cells #[.slice none 0 0, .map (some w.heap.size), .int .i64 0, .bool true] 228); rw [World.size_alloc] at h; exact h
 row := Kd.Aj9 _ _ _ _ _
 map := (World.ownsMap_made w _ _ _).alloc _
 pm := PM.nil
 hg := Nat.le_succ _
 hb := Nat.le_refl _
 tab := htab.on ((bz_).alloc (by simp) _)
theorem Bp5 (w : World) (htab : Lib.TabBelow Tryz.prog w.heap.size w "internal/strconv.uint64pow10" .u64 Lib.pow10Tab) :
  Calls Tryz.prog 150 #[] w fun e w' => e = .returned (.pointer (some ⟨w.heap.size + 1, 0, none⟩)) ∧ TB w.heap.size (w.heap.size + 1) 228 [.bool true] (fun _ => True) [] (.slice none 0 0) w.heap.size (.map []) w' ∧ Below w.heap.size w w' := by
 have HT := zA htab
 clear htab
 have hmm := @run_makeMap Tryz.prog
 go_enter Tryz.func150, Tryz.ntmps150
 go_wp2_with fail
 go_ret
 refine ⟨rfl, ?_, (bz_).alloc (by simp) _⟩
 exact new_tb w HT.out
end Go.Proofs.YtohlmkcgempdlaaGreatDoor.Cn
namespace Go.Proofs.YtohlmkcgempdlaaGreatDoor.Cn
set_option linter.unusedSimpArgs false
set_option maxRecDepth 100000
set_option linter.unusedVariables false
open Go.RowKit Go.Maps Go.Proofs.YtohlmkcgempdlaaGreatDoorW.PrintWords Go.Proofs.YtohlmkcgempdlaaGreatDoorW.PrintLast Go.Proofs.YtohlmkcgempdlaaGreatDoorW.PrintMore Go.Proofs.YtohlmkcgempdlaaGreatDoor.QD
theorem Bh1 {H : Type} {P : Program} (w : World) {ops : Array Oper} {rest : List Oper} {o : Oper} {a : Act} {Q : Exit → Act → World → Prop}
  (hg : o.guard = none) (it : Operand) (hop : o.op = Op.next it false) (k e : TypeId) (qe : IntKind) (K : Keyed P k) (hk : P.underlying k = some .string) (he : P.underlying e = some (.int qe))
  (b r n : Nat) (D : DataW H) (left : Lit → Bool) (cnt : Nat) (hit : a.eval it = .pointer (some ⟨r, 0, none⟩)) (h : w.ranges P k (plainElem P e) b r n D left cnt)
  (hDone : cnt = 0 → (∀ kl, left kl = false) → wpList P ops Q rest (a.put o.dst (.tuple #[.bool false])) w)
  (hMore : ∀ (s : ByteArray) (c : Int) (w' : World) (cnt' : Nat), keyOf P k (.string s) = some (.string s.data.toList) → (Lit.int qe c).wf = true → left (.string s.data.toList) = true → (∀ zd, D.atKey (.string s.data.toList) zd = .lit (.int qe c)) → w'.ranges P k (plainElem P e) b r n D (fun z => left z && !z.sameKey (.string s.data.toList)) cnt' → cnt' < cnt →
   w.grownBy w' (some r) → w'.heap.size = w.heap.size → (Instr.entry (.pointer (some ⟨r, 0, none⟩))).run P w' = .ok (.tuple #[.string s, .int qe c]) w' → wpList P ops Q rest (a.put o.dst (.tuple #[.bool true, .string s, .int qe c])) w') :
  wpList P ops Q (o :: rest) a w :=
 wpList_next_ranges w hg it hop k K (plainElem P e) Value.string (Value.int qe) (fun key kl hkey => Maps.keyOf_string_inv hk hkey) (fun v y hv => by obtain ⟨c, rfl, _⟩ := plainElem_int_inv he hv; exact ⟨c, rfl⟩)
  b r n D left cnt hit h hDone (fun x c kl y w' cnt' hkey hlk hv hat hrg hlt hgr hsz hen => by
   obtain ⟨c', ec, ey, hwc⟩ := plainElem_int_inv he hv
   cases ec
   subst ey
   have hs : kl = .string x.data.toList := by
    simp [keyOf, hk, mapKey] at hkey
    exact hkey.2.symm
   subst hs
   exact hMore x c w' cnt' hkey hwc hlk hat hrg hlt hgr hsz hen)
structure CG (w0 : World) (B : Nat) (l : List (Int × List S123)) (v bm q : Option Value) (W : World) : Prop where
 bel : Below w0.heap.size w0 W
 row : ∀ v', v = some v' → Kd.R kFam 244 W B (fun _ => True) v' l
 map : ∀ u, bm = some u → ∃ k, u = .map (some k) ∧ W.heap[k]? = some (.map #[] 0) ∧ w0.heap.size ≤ k
 box : ∀ u, q = some u → ∃ k, u = .pointer (some ⟨k, 0, none⟩) ∧ W.heap[k]? = some (.cells #[.slice none 0 0, .map none, .int .i64 0] 226 (0, 0)) ∧ w0.heap.size ≤ k
section
variable {w0 W W' : World} {B : Nat} {l : List (Int × List S123)} {v bm q : Option Value}
theorem CG.start (w0 : World) (B : Nat) (l : List (Int × List S123)) : CG w0 B l none none none w0 := ⟨Below.refl _ _, (fun _ h => by cases h), (fun _ h => by cases h), (fun _ h => by cases h)⟩
theorem CG.below (h : CG w0 B l v bm q W) (hb : Below W.heap.size W W') : CG w0 B l v bm q W' :=
 ⟨h.bel.trans (hb.mono h.bel.size), fun v' e => Kd.Ac5 (h.row v' e) hb, fun u e => by obtain ⟨k, e1, e2, e3⟩ := h.map u e; exact ⟨k, e1, (hb.block k (Array.getElem?_eq_some_iff.1 e2).1).trans e2, e3⟩, fun u e => by obtain ⟨k, e1, e2, e3⟩ := h.box u e; exact ⟨k, e1, Aa3 e2 hb, e3⟩⟩
theorem CG.mm (h : CG w0 B l v none q W) : CG w0 B l v (some (.map (some W.heap.size))) q (W.alloc (.map #[] 0)) :=
 { h.below (bz_) with map := fun u e => ⟨W.heap.size, by injection e with e; exact e.symm, (MapKept.heap_alloc W _).1, h.bel.size⟩ }
theorem CG.al (h : CG w0 B l v bm none W) : CG w0 B l v bm (some (.pointer (some ⟨W.heap.size, 0, none⟩))) (W.alloc (.cells #[.slice none 0 0, .map none, .int .i64 0] 226)) :=
 { h.below (bz_) with box := fun u e => ⟨W.heap.size, by injection e with e; exact e.symm, Aa6 W _, h.bel.size⟩ }
theorem CG.app (h : CG w0 B l none bm q W) {v' : Value} (hr : Kd.R kFam 244 W' B (fun _ => True) v' l) (hg : W.grownBy W' none) : CG w0 B l (some v') bm q W' :=
 { h.below (Ae7 hg (Nat.le_refl _) (by intro k e; cases e)) with row := fun u e => by injection e with e; subst e; exact hr }
theorem CG.cell (h : CG w0 B l v bm q W) {p : Addr} {u : Value} (hc : w0.cell? p = some u) : W.cell? p = some u := (h.bel.cell (World.block_lt_of_cell? w0 p hc)).trans hc
theorem CG.size (h : CG w0 B l v bm q W) : w0.heap.size ≤ W.heap.size := h.bel.size
end
theorem Ar8 {ops : Array Oper} {o : Oper} {a : Act} {Q : Exit → Act → World → Prop} {Kc : Act → World → Prop} {w5 W : World} {B : Nat} {l : List (Int × List S123)} {bm q : Option Value} {A : Option Addr} {c : Nat} {s x : Operand} (G : CG w5 B l none bm q W) (HR : Kd.R kFam 244 w5 B (fun _ => True) (.slice A l.length c) l) (hB : B ≤ w5.heap.size)
  (hw : Region.wanted o (yielded ops a.tmps) = true) (ho : o.op = .call { callee := .builtin .append, args := #[s, x], argTypes := #[224, 224] }) (hs : a.eval s = .slice none 0 0) (hx : a.eval x = .slice A l.length c) (hl : l.length * 32 ≤ 140737488355328)
  (h : ∀ v1 w1, CG w5 B l (some v1) bm q w1 → Kc (a.put o.dst v1) w1) :
  if Region.wanted o (yielded ops a.tmps) = true then Oper.wp Tryz.prog o a W Kc Q else Kc (a.put o.dst undef) W := by
 obtain ⟨A', c', e1, _, hr⟩ := Aj8.reads (Kd.Ac5 HR G.bel).2
 injection e1 with e1 e2 e3
 subst e1
 refine Kd.Aj7 kFam (w0 := W) B hw s x 224 244 (.agg #[.int .i64 0, .slice none 0 0]) 32 ho Tryz.underlying224 Cj8 rfl (by decide) (by decide) (.slice none 0 0) [] l A l.length c (fun _ => True) (fun _ => True) hs hx (Kd.Aj9 _ _ _ _ _) hr (fun _ _ hm => kFam.M_mono (fun _ _ => trivial) hm) (fun k _ => ⟨trivial, by simp [Value.ownBlock]⟩) (fun _ _ => trivial) (Below.refl _ _) (Nat.le_trans hB G.size) (by simpa using hl) ?_
 intro v1 w1 hr1 _ hg _
 rw [List.nil_append] at hr1
 exact h v1 w1 (G.app hr1 hg)
structure CL (w : World) (B : Nat) (l : List (Int × List S123)) (v : Value) (mg : Int) (b bm q it : Nat) (W : World) : Prop where
 bel : Below w.heap.size w W
 row : Kd.R kFam 244 W B (fun k => k ≠ bm ∧ k ≠ it) v l
 box : W.heap[q]? = some (.cells #[v, .map (some bm), .int .i64 mg] 226 (0, 0))
 res : W.heap[w.heap.size]? = some (.cells #[.slice none 0 0, .map none, .int .i64 0] 226 (0, 0))
theorem CL.grown {w W W' : World} {B : Nat} {l : List (Int × List S123)} {v : Value} {mg : Int} {b bm q it : Nat} (h : CL w B l v mg b bm q it W) {r : Nat} (hg : W.grownBy W' (some r)) (hr : r = bm ∨ r = it) (hn : w.heap.size < r) (hq : q ≠ r) : CL w B l v mg b bm q it W' :=
 ⟨h.bel.trans (Ae7 hg h.bel.size (fun k e => by injection e with e; omega)), Kd.Au8 h.row hg (fun k hk e => by injection e with e; have h1 := hk.1; have h2 := hk.2; omega), Ab5 h.box hg (by intro e; injection e with e; exact hq e), Ab5 h.res hg (by intro e; injection e with e; omega)⟩
set_option maxHeartbeats 4000000 in
theorem Br6 (B g b : Nat) (t : TypeId) (rest : List Value) (gs : List (List S123)) (v : Value) (D : DataW Unit) (w : World) (hT : TB B g t rest (fun _ => True) gs v b D w) (hB : B ≤ w.heap.size) (hg0 : gs.length ≤ 1099511627776) :
  Calls Tryz.prog 163 #[.pointer (some ⟨g, 0, none⟩)] w fun e w' => ∃ (v' : Value) (bm : Nat), e = .returned (.agg #[v', .map (some bm), .int .i64 (Ab2 gs)]) ∧ Kd.R kFam 244 w' B (fun _ => True) v' (Ad6 0 gs) ∧ w'.ownsMap Tryz.prog 9 (plainElem (H := Unit) Tryz.prog 3) bm gs.length D ∧ w.heap.size ≤ bm ∧ Below w.heap.size w w' := by
 have hmm := @run_makeMap Tryz.prog
 obtain ⟨Av, cv, hv, hcv, hCv⟩ := Kd.Ae4 hT.row
 subst hv
 obtain ⟨ll, hll⟩ : ∃ ll : List (Int × List S123), ll = Ad6 0 gs := ⟨_, rfl⟩
 have hlen : ll.length = gs.length := by rw [hll, Ag2]
 rw [← hll] at hcv hCv
 obtain ⟨mg, hmg⟩ : ∃ mg : Int, mg = Ab2 gs := ⟨_, rfl⟩
 obtain ⟨c0, c1, c2⟩ := Au0 hT.box
 rw [← hll] at c0
 rw [← hmg] at c2 ⊢
 rw [← hll]
 have HROW : Aa2 (Kd.R kFam 244 w B (fun _ => True) (.slice Av ll.length cv) ll) := ⟨by have h_ := hT.row; rw [← hll] at h_; exact h_⟩
 have HMAP := zA hT.map
 have HB := zA hB
 have HGL := zA hg0
 have HLEN := zA hlen
 have QQ := zA (And.intro c0 c2)
 have Q1 := zA c1
 have HLT : Aa2 (g < w.heap.size) := ⟨Ac0 hT.box⟩
 clear hT hB hg0 hcv hCv hll hmg hlen c0 c1 c2
 go_enter Tryz.func163, Tryz.ntmps163
 go_wp2_with fail
 have C0 : Aa2 (Below w.heap.size w (World.drew (w.alloc (.cells #[.slice none 0 0, .map none, .int .i64 0] 226)))) := ⟨((Below.refl w.heap.size w).alloc (Nat.le_refl _) (.cells #[.slice none 0 0, .map none, .int .i64 0] 226)).trans ⟨rfl, rfl, rfl, Nat.le_refl _, fun _ _ => rfl⟩⟩
 have R0 : Aa2 ((World.drew (w.alloc (.cells #[.slice none 0 0, .map none, .int .i64 0] 226))).heap[w.heap.size]? = some (.cells #[.slice none 0 0, .map none, .int .i64 0] 226 (0, 0))) := ⟨Aa6 w _⟩
 refine Ab3 (n := 13) (S := fun w' => w'.cell? ⟨g, 0, none⟩ = some (.slice Av ll.length cv) ∧ w'.cell? ⟨g, 2, none⟩ = some (.int .i64 mg)) (ds := [12]) (bm_ 13 0) (by kernel_rfl) rfl rfl ⟨(C0.out.cell HLT.out).trans QQ.out.1, (C0.out.cell HLT.out).trans QQ.out.2⟩ (fun hHeld => ?_)
 generalize World.drew _ = w5 at C0 R0 hHeld ⊢
 have QA : Aa2 (w5.cell? ⟨g, 0, none⟩ = some (.slice Av ll.length cv) ∧ w5.cell? ⟨g, 2, none⟩ = some (.int .i64 mg)) := ⟨(C0.out.cell HLT.out).trans QQ.out.1, (C0.out.cell HLT.out).trans QQ.out.2⟩
 have HROW5 := zA (Kd.Ac5 HROW.out C0.out)
 have HB5 : Aa2 (B ≤ w5.heap.size) := ⟨Nat.le_trans HB.out C0.out.size⟩
 have G0 := zA (CG.start w5 B ll)
 refine pz_ 0 6 13 1 ?_
 refine pz_ 1 7 13 3 ?_
 refine pz_ 2 8 13 7 ?_
 refine pz_ 6 12 13 71 ?_
 refine pz_ 7 13 13 199 ?_
 refine pz_ 8 14 13 455 ?_
 refine tz_ 3 9 13 463 hHeld ?_
 refine tz_ 9 15 13 975 hHeld ?_
 refine join_ (σ := Value × Value × Value) 1 (bm_ 13 4095) (fun s_ => [(10, s_.1), (11, s_.2.1), (3, s_.2.2), (16, .agg #[s_.1, s_.2.1, .int .i64 mg])]) (fun s_ w' => CG w5 B ll (some s_.1) (some s_.2.1) (some s_.2.2) w') ?_ ?_
 rotate_left
 ·intro hCont
  refine three_ (i := 4) (j := 5) (k := 11) (Ni := some 10) (Nj := some 11) (Nk := some 3) (bm_ 13 991) (bm_ 13 1007) (bm_ 13 3023) rfl rfl rfl rfl rfl rfl (by kernel_rfl) (by decide) (by decide) (by decide) (fun K hK => ?_) (fun K hK => ?_) (fun K hK => ?_)
  ·skip
   refine Ar8 G0.out HROW5.out HB5.out (by rfl) (s := .const (.slice none 0 0)) (x := .tmp 9) rfl rfl rfl (by rw [HLEN.out]; have := HGL.out; omega) ?_
   intro v5 w8 hG8
   obtain ⟨A5, c5, e5⟩ := Kd.Aa9 (hG8.row _ rfl)
   subst e5
   have G4 := zA hG8
   clear hG8
   refine hK.out _ _ ⟨G4.out.cell QA.out.1, G4.out.cell QA.out.2⟩ (fun hHeld => ?_)
   clear hK K
   refine nz_ ?_
   refine two_ (i := 5) (j := 11) (Ni := some 11) (Nj := some 3) (bm_ 13 1023) (bm_ 13 3039) rfl rfl rfl rfl (by kernel_rfl) (by decide) (by decide) (fun K hK => ?_) (fun K hK => ?_)
   ·skip
    refine vz_ ?_
    have G4_5 := zA G4.out.mm
    try simp only [World.size_alloc] at G4_5
    refine hK.out _ _ ⟨G4_5.out.cell QA.out.1, G4_5.out.cell QA.out.2⟩ (fun hHeld => ?_)
    clear hK K
    refine nz_ ?_
    refine pz_ 10 16 13 2047 ?_
    refine oz_ 11 3 13 4095 fun K hK => ?_
    refine vz_ ?_
    have G4_5_11 := zA G4_5.out.al
    try simp only [World.size_alloc] at G4_5_11
    refine hK.out _ _ ⟨G4_5_11.out.cell QA.out.1, G4_5_11.out.cell QA.out.2⟩ (fun hHeld => ?_)
    clear hK K
    refine nz_ ?_
    exact Aq9 (by simp only [Aj0, Act.put, List.setIfInBounds_toArray, List.set_cons_zero, List.set_cons_succ]) (hCont (_, _, _) _ G4_5_11.out)
   ·skip
    refine vz_ ?_
    have G4_11 := zA G4.out.al
    try simp only [World.size_alloc] at G4_11
    refine hK.out _ _ ⟨G4_11.out.cell QA.out.1, G4_11.out.cell QA.out.2⟩ (fun hHeld => ?_)
    clear hK K
    refine nz_ ?_
    refine oz_ 5 11 13 3071 fun K hK => ?_
    refine vz_ ?_
    have G4_11_5 := zA G4_11.out.mm
    try simp only [World.size_alloc] at G4_11_5
    refine hK.out _ _ ⟨G4_11_5.out.cell QA.out.1, G4_11_5.out.cell QA.out.2⟩ (fun hHeld => ?_)
    clear hK K
    refine nz_ ?_
    refine pz_ 10 16 13 4095 ?_
    exact Aq9 (by simp only [Aj0, Act.put, List.setIfInBounds_toArray, List.set_cons_zero, List.set_cons_succ]) (hCont (_, _, _) _ G4_11_5.out)
  ·skip
   refine vz_ ?_
   have G5 := zA G0.out.mm
   try simp only [World.size_alloc] at G5
   refine hK.out _ _ ⟨G5.out.cell QA.out.1, G5.out.cell QA.out.2⟩ (fun hHeld => ?_)
   clear hK K
   refine nz_ ?_
   refine two_ (i := 4) (j := 11) (Ni := some 10) (Nj := some 3) (bm_ 13 1023) (bm_ 13 3055) rfl rfl rfl rfl (by kernel_rfl) (by decide) (by decide) (fun K hK => ?_) (fun K hK => ?_)
   ·skip
    refine Ar8 G5.out HROW5.out HB5.out (by rfl) (s := .const (.slice none 0 0)) (x := .tmp 9) rfl rfl rfl (by rw [HLEN.out]; have := HGL.out; omega) ?_
    intro v5 w8 hG8
    obtain ⟨A5, c5, e5⟩ := Kd.Aa9 (hG8.row _ rfl)
    subst e5
    have G5_4 := zA hG8
    clear hG8
    refine hK.out _ _ ⟨G5_4.out.cell QA.out.1, G5_4.out.cell QA.out.2⟩ (fun hHeld => ?_)
    clear hK K
    refine nz_ ?_
    refine pz_ 10 16 13 2047 ?_
    refine oz_ 11 3 13 4095 fun K hK => ?_
    refine vz_ ?_
    have G5_4_11 := zA G5_4.out.al
    try simp only [World.size_alloc] at G5_4_11
    refine hK.out _ _ ⟨G5_4_11.out.cell QA.out.1, G5_4_11.out.cell QA.out.2⟩ (fun hHeld => ?_)
    clear hK K
    refine nz_ ?_
    exact Aq9 (by simp only [Aj0, Act.put, List.setIfInBounds_toArray, List.set_cons_zero, List.set_cons_succ]) (hCont (_, _, _) _ G5_4_11.out)
   ·skip
    refine vz_ ?_
    have G5_11 := zA G5.out.al
    try simp only [World.size_alloc] at G5_11
    refine hK.out _ _ ⟨G5_11.out.cell QA.out.1, G5_11.out.cell QA.out.2⟩ (fun hHeld => ?_)
    clear hK K
    refine nz_ ?_
    refine oz_ 4 10 13 3071 fun K hK => ?_
    refine Ar8 G5_11.out HROW5.out HB5.out (by rfl) (s := .const (.slice none 0 0)) (x := .tmp 9) rfl rfl rfl (by rw [HLEN.out]; have := HGL.out; omega) ?_
    intro v5 w8 hG8
    obtain ⟨A5, c5, e5⟩ := Kd.Aa9 (hG8.row _ rfl)
    subst e5
    have G5_11_4 := zA hG8
    clear hG8
    refine hK.out _ _ ⟨G5_11_4.out.cell QA.out.1, G5_11_4.out.cell QA.out.2⟩ (fun hHeld => ?_)
    clear hK K
    refine nz_ ?_
    refine pz_ 10 16 13 4095 ?_
    exact Aq9 (by simp only [Aj0, Act.put, List.setIfInBounds_toArray, List.set_cons_zero, List.set_cons_succ]) (hCont (_, _, _) _ G5_11_4.out)
  ·skip
   refine vz_ ?_
   have G11 := zA G0.out.al
   try simp only [World.size_alloc] at G11
   refine hK.out _ _ ⟨G11.out.cell QA.out.1, G11.out.cell QA.out.2⟩ (fun hHeld => ?_)
   clear hK K
   refine nz_ ?_
   refine two_ (i := 4) (j := 5) (Ni := some 10) (Nj := some 11) (bm_ 13 3039) (bm_ 13 3055) rfl rfl rfl rfl (by kernel_rfl) (by decide) (by decide) (fun K hK => ?_) (fun K hK => ?_)
   ·skip
    refine Ar8 G11.out HROW5.out HB5.out (by rfl) (s := .const (.slice none 0 0)) (x := .tmp 9) rfl rfl rfl (by rw [HLEN.out]; have := HGL.out; omega) ?_
    intro v5 w8 hG8
    obtain ⟨A5, c5, e5⟩ := Kd.Aa9 (hG8.row _ rfl)
    subst e5
    have G11_4 := zA hG8
    clear hG8
    refine hK.out _ _ ⟨G11_4.out.cell QA.out.1, G11_4.out.cell QA.out.2⟩ (fun hHeld => ?_)
    clear hK K
    refine nz_ ?_
    refine oz_ 5 11 13 3071 fun K hK => ?_
    refine vz_ ?_
    have G11_4_5 := zA G11_4.out.mm
    try simp only [World.size_alloc] at G11_4_5
    refine hK.out _ _ ⟨G11_4_5.out.cell QA.out.1, G11_4_5.out.cell QA.out.2⟩ (fun hHeld => ?_)
    clear hK K
    refine nz_ ?_
    refine pz_ 10 16 13 4095 ?_
    exact Aq9 (by simp only [Aj0, Act.put, List.setIfInBounds_toArray, List.set_cons_zero, List.set_cons_succ]) (hCont (_, _, _) _ G11_4_5.out)
   ·skip
    refine vz_ ?_
    have G11_5 := zA G11.out.mm
    try simp only [World.size_alloc] at G11_5
    refine hK.out _ _ ⟨G11_5.out.cell QA.out.1, G11_5.out.cell QA.out.2⟩ (fun hHeld => ?_)
    clear hK K
    refine nz_ ?_
    refine oz_ 4 10 13 3071 fun K hK => ?_
    refine Ar8 G11_5.out HROW5.out HB5.out (by rfl) (s := .const (.slice none 0 0)) (x := .tmp 9) rfl rfl rfl (by rw [HLEN.out]; have := HGL.out; omega) ?_
    intro v5 w8 hG8
    obtain ⟨A5, c5, e5⟩ := Kd.Aa9 (hG8.row _ rfl)
    subst e5
    have G11_5_4 := zA hG8
    clear hG8
    refine hK.out _ _ ⟨G11_5_4.out.cell QA.out.1, G11_5_4.out.cell QA.out.2⟩ (fun hHeld => ?_)
    clear hK K
    refine nz_ ?_
    refine pz_ 10 16 13 4095 ?_
    exact Aq9 (by simp only [Aj0, Act.put, List.setIfInBounds_toArray, List.set_cons_zero, List.set_cons_succ]) (hCont (_, _, _) _ G11_5_4.out)
 rintro ⟨v6, u6, p6⟩ w6 hG6
 have hHeld : w6.cell? ⟨g, 0, none⟩ = some (.slice Av ll.length cv) ∧ w6.cell? ⟨g, 2, none⟩ = some (.int .i64 mg) := ⟨hG6.cell QA.out.1, hG6.cell QA.out.2⟩
 obtain ⟨bm, eu, hbm, hbm0⟩ := hG6.map _ rfl
 obtain ⟨pq, ep, hpq, hpq0⟩ := hG6.box _ rfl
 have hr6 := hG6.row _ rfl
 obtain ⟨A6, n6, e6⟩ := Kd.Aa9 hr6
 dsimp only at eu ep e6 hr6
 subst eu ep e6
 have G6 := zA hG6.bel
 have HBM := zA hbm
 have HPQ := zA hpq
 have HR6 := zA hr6
 have HBM0 := zA hbm0
 have HPQ0 := zA hpq0
 clear hG6 hbm hpq hr6 hbm0 hpq0
 refine Aq9 (a' := ?_) ?_ ?_
 rotate_left
 ·simp only [Aj0, Act.put, List.setIfInBounds_toArray, List.set_cons_zero, List.set_cons_succ]
  rfl
 refine Ag8 (i := 12) (N := none) (bm_ 13 8191) rfl rfl (by kernel_rfl) (by decide) (fun K hK => ?_)
 have hs0_ := bc_ HPQ.out 0
 have hs1_ := bc_ HPQ.out 1
 have hs2_ := bc_ HPQ.out 2
 have hf0_ := Aa1 HPQ.out 0
 have hf1_ := Aa1 HPQ.out 1
 have hf2_ := Aa1 HPQ.out 2
 refine sz_ ?_
 refine hK.out _ _ ?_
 clear hK K
 refine dz_ ?_

 have hsz5 : w.heap.size < w5.heap.size := Ac0 R0.out
 have bx7 := Aa7 (Aa7 (Aa7 HPQ.out 0 (.slice A6 ll.length n6)) 1 (.map (some bm))) 2 (.int .i64 mg)
 have hne : bm ≠ pq := by rintro rfl; have h_ := HBM.out; rw [HPQ.out] at h_; cases h_
 have hpq0 := HPQ0.out
 have hbm0 := HBM0.out
 have row7 := Kd.Ac3 (Kd.Ac3 (Kd.Ac3 HR6.out HPQ.out (by decide) 0 (.slice A6 ll.length n6)) (Aa7 HPQ.out 0 (.slice A6 ll.length n6)) (by decide) 1 (.map (some bm))) (Aa7 (Aa7 HPQ.out 0 (.slice A6 ll.length n6)) 1 (.map (some bm))) (by decide) 2 (.int .i64 mg)
 have bel7 : Below w5.heap.size w5 (((w6.setCell ⟨pq, 0, none⟩ (.slice A6 ll.length n6)).setCell ⟨pq, 1, none⟩ (.map (some bm))).setCell ⟨pq, 2, none⟩ (.int .i64 mg)) := ((G6.out.setCell (B := w5.heap.size) (p := ⟨pq, 0, none⟩) hpq0 _).setCell (p := ⟨pq, 1, none⟩) hpq0 _).setCell (p := ⟨pq, 2, none⟩) hpq0 _
 have oth7 : ∀ k, k ≠ pq → (((w6.setCell ⟨pq, 0, none⟩ (.slice A6 ll.length n6)).setCell ⟨pq, 1, none⟩ (.map (some bm))).setCell ⟨pq, 2, none⟩ (.int .i64 mg)).heap[k]? = w6.heap[k]? := fun k hk => ((Below.heap_setCell _ ⟨pq, 2, none⟩ _ k hk).trans (Below.heap_setCell _ ⟨pq, 1, none⟩ _ k hk)).trans (Below.heap_setCell w6 ⟨pq, 0, none⟩ _ k hk)
 have map7 := (oth7 bm hne).trans HBM.out
 have res7 := (oth7 w.heap.size (by omega)).trans (Aa3 R0.out G6.out)
 have bx7' : (((w6.setCell ⟨pq, 0, none⟩ (.slice A6 ll.length n6)).setCell ⟨pq, 1, none⟩ (.map (some bm))).setCell ⟨pq, 2, none⟩ (.int .i64 mg)).heap[pq]? = some (.cells #[(.slice A6 ll.length n6), .map (some bm), .int .i64 mg] 226 (0, 0)) := by simpa using bx7
 clear bx7 oth7
 generalize (((w6.setCell ⟨pq, 0, none⟩ (.slice A6 ll.length n6)).setCell ⟨pq, 1, none⟩ (.map (some bm))).setCell ⟨pq, 2, none⟩ (.int .i64 mg)) = w7 at bel7 row7 map7 res7 bx7' ⊢
 have belw := C0.out.trans (bel7.mono (Nat.le_of_lt hsz5))
 have HOWN := zA (HMAP.out.kept (Ak5 belw none) (by simp))
 have q1 : w7.cell? ⟨g, 1, none⟩ = some (.map (some b)) := (belw.cell HLT.out).trans Q1.out
 have HNE := zA hne
 have HS5 := zA hsz5
 have HB7 := zA belw
 have HBEL7 := zA bel7
 have HROW7 := zA row7
 have HM7 := zA map7
 have HRES7 := zA res7
 have HBX7 := zA bx7'
 have HLB : Aa2 (b < w.heap.size) := ⟨HMAP.out.lt⟩
 clear hne hsz5 belw bel7 row7 map7 res7 bx7' hpq0 hbm0
 go_wp2_with (at_range; refine wpList_range_own _ rfl _ 223 rfl 9 3 Aj1 Tryz.underlying223 _ b gs.length _ rfl HOWN.out ?_; intro w8 hrg0 hg0 hs0)
 go_frame
 have CL0 : CL w B ll (.slice A6 ll.length n6) mg b bm pq w7.heap.size w8 := ⟨HB7.out.trans (Ae7 hg0 HB7.out.size (by intro k e; cases e)), Kd.Af7 (Kd.Au8 (Kd.Af6 HROW7.out) hg0 (by intro k _ e; cases e)) (fun k hk => ⟨fun e => by obtain ⟨_, _, _, q_, _, cells_, hc_⟩ := hk; rw [e, HM7.out] at hc_; simp at hc_, fun e => by have := hk.2.2.1; omega⟩), Ab5 HBX7.out hg0 (by simp), Ab5 HRES7.out hg0 (by simp)⟩
 have OM0 : w8.ownsMap Tryz.prog 9 (plainElem (H := Unit) Tryz.prog 3) bm 0 (.map []) := World.ownsMap.kept (w := w7) ⟨#[], 0, HM7.out, ⟨by simp, MapKept.stamped_empty 0, by simp⟩, Nat.le_refl _, rfl⟩ hg0 (by simp)
 have hbq : bm < w7.heap.size ∧ pq < w7.heap.size := ⟨(Array.getElem?_eq_some_iff.1 HM7.out).1, Ac0 HBX7.out⟩
 have HBQ := zA hbq
 clear hbq
 obtain ⟨it, hit⟩ : ∃ it, it = w7.heap.size := ⟨_, rfl⟩
 rw [← hit] at CL0 hrg0 HBQ ⊢
 have HIT := zA hit
 clear hg0 hs0 q1 hit
 go_loopw [4, 5] (fun _ _ W => ∃ (left : Lit → Bool) (cnt : Nat) (Dout : DataW Unit), W.ranges Tryz.prog 9 (plainElem (H := Unit) Tryz.prog 3) b it gs.length D left cnt ∧ cnt ≤ Maps.size D ∧ W.ownsMap Tryz.prog 9 (plainElem (H := Unit) Tryz.prog 3) bm (Maps.size D - cnt) Dout ∧ Agree Dout D left ∧ CL w B ll (.slice A6 ll.length n6) mg b bm pq it W) (fun _ _ W => W.rangeLeft b it)
 case atStart => exact ⟨_, _, .map [], hrg0, Nat.le_refl _, OM0.mono (Nat.zero_le _), agree_start D, CL0⟩
 case round =>
  clear CL0 OM0 hrg0
  obtain ⟨left, cnt, Dout, hrg, hcs, hout, hA, hcl⟩ := hrel
  have HCL := zA hcl
  have HRG := zA hrg
  have HOUT := zA hout
  have HA := zA hA
  have HCS := zA hcs
  clear hcl hrg hout hA hcs
  go_wp2_with (at_next; refine Bh1 _ rfl _ rfl 9 3 .i64 Aj1 Tryz.underlying9 Tryz.underlying3 b it gs.length _ _ _ rfl HRG.out ?_ ?_)
  ·intro hc0 hl0
   have p0 := bc_ HCL.out.box 0
   have p1 := bc_ HCL.out.box 1
   have p2 := bc_ HCL.out.box 2
   have r0 := bc_ HCL.out.res 0
   have f0 := Aa1 HCL.out.res 0
   have r1 := bc_ HCL.out.res 1
   have f1 := Aa1 HCL.out.res 1
   have r2 := bc_ HCL.out.res 2
   have f2 := Aa1 HCL.out.res 2
   go_wp2_with fail
   subst hc0
   have e_ := agree_end HA.out hl0 (HOUT.out.canon Aj1) (HOWN.out.canon Aj1)
   subst e_
   have bx9 := Aa7 (Aa7 (Aa7 HCL.out.res 0 (.slice A6 ll.length n6)) 1 (.map (some bm))) 2 (.int .i64 mg)
   refine bodyPost_ret (results_cell_row rfl _ _ w.heap.size 226 #[(.slice A6 ll.length n6), .map (some bm), .int .i64 mg] (0, 0) _ rfl (by simpa using bx9) Tryz.underlying226 rfl (by kernel_rfl)) rfl ?_
   have belx := ((HCL.out.bel.setCell (B := w.heap.size) (p := ⟨w.heap.size, 0, none⟩) (Nat.le_refl _) (.slice A6 ll.length n6)).setCell (p := ⟨w.heap.size, 1, none⟩) (Nat.le_refl _) (.map (some bm))).setCell (p := ⟨w.heap.size, 2, none⟩) (Nat.le_refl _) (.int .i64 mg)
   have hne9 : bm ≠ w.heap.size := by have := HBM0.out; have := HS5.out; omega
   have rowx := Kd.Ac3 (Kd.Ac3 (Kd.Ac3 HCL.out.row HCL.out.res (by decide) 0 (.slice A6 ll.length n6)) (Aa7 HCL.out.res 0 (.slice A6 ll.length n6)) (by decide) 1 (.map (some bm))) (Aa7 (Aa7 HCL.out.res 0 (.slice A6 ll.length n6)) 1 (.map (some bm))) (by decide) 2 (.int .i64 mg)
   have ks : ∀ {W : World} {n : Nat} (i : Nat) (u : Value), W.ownsMap Tryz.prog 9 (plainElem (H := Unit) Tryz.prog 3) bm n Dout → (W.setCell ⟨w.heap.size, i, none⟩ u).ownsMap Tryz.prog 9 (plainElem (H := Unit) Tryz.prog 3) bm n Dout := fun {W n} i u h => h.kept (row := some w.heap.size) ⟨rfl, rfl, rfl, by simp, fun k _ hk => Below.heap_setCell W ⟨w.heap.size, i, none⟩ u k (by rintro rfl; exact hk rfl)⟩ (by intro e; injection e with e; exact hne9 e)
   exact ⟨_, bm, rfl, Kd.Af7 rowx (fun _ _ => trivial), ks 2 _ (ks 1 _ (ks 0 _ (HOUT.out.mono (by have := HOWN.out.size_le; omega)))), by have := HBM0.out; have := HS5.out; omega, belx⟩
  ·intro sk ca w9 cnt1 hkey hwc hlk hat hrg1 hlt hg1 hs1 hen
   have hout1 := zA (HOUT.out.kept hg1 (by have := HBQ.out; have := HIT.out; intro e; injection e with e; omega))
   have CL1 := zA (HCL.out.grown hg1 (Or.inr rfl) (by have := HS5.out; have := HBEL7.out.size; have := HIT.out; omega) (by have := HBQ.out; have := HIT.out; omega))
   have HKEY := zA hkey
   have HWC := zA hwc
   have HRG1 := zA hrg1
   have HG1 := zA hg1
   have HLT1 := zA hlt
   have HAT := zA hat
   have p1 := bc_ CL1.out.box 1
   clear hkey hwc hlk hat hrg1 hlt hg1 hs1
   go_wp2_with (at_mapUpdate; refine wpList_mapUpdate_own _ rfl _ _ _ 223 rfl 9 3 Aj1 Tryz.underlying223 _ bm _ _ rfl hout1.out (by have := HOWN.out.size_le; have := HGL.out; unfold maxLen; omega) _ _ _ rfl rfl HKEY.out _ [] (plainElem_int Tryz.underlying3 HWC.out) ?_; intro w10 hout2 hg2; go_frame)
   have hrg2 := HRG1.out.kept hg2 (fun e => by have := Option.some.inj e; have := HBM0.out; have := HS5.out; have := HLB.out; omega) (fun e => by have := Option.some.inj e; have := HBQ.out; have := HIT.out; omega)
   go_roundw
   case rel => exact ⟨_, cnt1, _, hrg2, by have := HLT1.out; have := HCS.out; omega, hout2.mono (by have := HLT1.out; have := HCS.out; omega), agree_step HA.out HOUT.out.isMap (by trivial) HAT.out, CL1.out.grown hg2 (Or.inl rfl) (by have := HBM0.out; have := HS5.out; omega) (fun e => HNE.out e.symm)⟩
   case measure => rw [hrg2.left_eq, HRG.out.left_eq]; exact HLT1.out
def Cm0 (B g b : Nat) (gs : List (List S123)) (c : Prop) (st : Option (List (List S123) × List Int)) (w : World) (e : Ending) (w' : World) : Prop :=
 (¬ c ∧ ∃ n : Int, e = .returned (.tuple #[.slice none 0 0, .int .i64 n, .int .i64 50]) ∧ Below w.heap.size w w') ∨
 (c ∧ match st with
  | none => (∃ n : Int, e = .returned (.tuple #[.slice none 0 0, .int .i64 n, .int .i64 2])) ∧ FrA B w.heap.size w.heap.size w w'
  | some (gs', ids) => ∃ (vi v' : Value) (b' : Nat) (D' : DataW Unit), e = .returned (.tuple #[vi, .int .i64 0, .int .i64 0]) ∧ TB B g 228 [.bool true] (fun k => True ∧ some k ≠ vi.ownBlock) gs' v' b' D' w' ∧ Kd.R (Kd.int .i64) 3 w' w.heap.size (fun _ => True) vi ids ∧ FrA B g b w w')
theorem FrA.sub {B g b g' b' : Nat} {w0 w1 W : World} (hb : Below w0.heap.size w0 w1) (h : FrA B g' b' w1 W) (hB : B ≤ w0.heap.size) (hg : w0.heap.size ≤ g') (hb' : w0.heap.size ≤ b') : FrA B g b w0 W :=
 ⟨(hb.mono hB).trans h.bel, fun k o hk h1 h2 h3 => h.oth k o ((hb.block k (Array.getElem?_eq_some_iff.1 hk).1).trans hk) (by have := (Array.getElem?_eq_some_iff.1 hk).1; omega) (by have := (Array.getElem?_eq_some_iff.1 hk).1; omega) h3, hB⟩
set_option maxHeartbeats 4000000 in
theorem Ca6 (B g b : Nat) (gs : List (List S123)) (v : Value) (D : DataW Unit) (A : Option Addr) (c : Nat) (l : List S132) (w : World) (hT : TB B g 228 [.bool true] (fun _ => True) gs v b D w) (hB : B ≤ w.heap.size)
  (hC : Kd.C k132 w A l.length l) (hcap : l.length ≤ c) (hLR : ∀ g' b' w1, Below w.heap.size w w1 → w.heap.size ≤ g' → w.heap.size ≤ b' → LR (fun W => FrA B g' b' w1 W) A l)
  (hsok : ∀ r ∈ l, ∀ s ∈ r.f0, SOk (fun _ => True) s) (hin : Clo l → ∀ r ∈ l, ∀ s ∈ r.f0, RIn s) (hw : wL l ≤ 1048576) (hl : l.length ≤ 1048576) (hm0 : Ab2 gs ≤ 1099511627776) (hg0 : gs.length ≤ 1099511627776) :
  Calls Tryz.prog 151 #[.pointer (some ⟨g, 0, none⟩), .slice A l.length c] w fun e w' => Cm0 B g b gs (Clo l) (Ae1 10000 (gs, []) l) w e w' := by
 have hc3 : w.cell? ⟨g, 3, none⟩ = some (.bool true) := (Aa0 hT.box 3).trans (by simp)
 have HT := zA hT
 have HB := zA hB
 have HC := zA hC
 have HLR := zA hLR
 have HSOK := zA hsok
 have HIN := zA hin
 have HW := zA hw
 have HM0 := zA hm0
 have HG0 := zA hg0
 have HL := zA hl
 clear hT hB hC hLR hsok hin hw hm0 hg0
 go_enter Tryz.func151, Tryz.ntmps151
 go_wp2_with fail
 refine (Ch1 g _ hc3).mono ?_
 rintro e w1 ⟨rfl, hw1⟩
 obtain rfl := hw1.symm
 go_wp2_with fail
 have htc : Aa8 l ≤ 1048576 := by have := Ab4 l; have := HW.out; omega
 refine (An4 A c l _ HC.out hcap (by omega) (by omega) HSOK.out).mono ?_
 rintro e w2 ⟨⟨n, er, rfl, hcl⟩, hb2⟩
 rcases hcl with ⟨rfl, rfl, hclo⟩ | ⟨rfl, hclo⟩
 rotate_left
 ·go_wp2_with fail
  go_ret3
  exact Or.inl ⟨hclo, n, rfl, hb2⟩
 have HCLO := zA hclo
 have HB2 := zA hb2
 have HT2 := zA (HT.out.below hb2 HB.out)
 clear hclo hb2 htc
 go_wp2_with fail
 have hBz : B ≤ w2.heap.size := Nat.le_trans HB.out HB2.out.size
 refine (Br6 B g b 228 [.bool true] gs v D w2 HT2.out hBz HG0.out).mono ?_
 rintro e w3 ⟨v', bm, rfl, hr3, hm3, hbm, hb3⟩
 obtain ⟨A3, c3, e3⟩ := Kd.Aa9 hr3
 rw [Ag2] at e3
 subst e3
 have HB3 := zA hb3
 have HBZ := zA hBz
 have HBM := zA hbm
 obtain ⟨mg, hmg⟩ : ∃ mg : Int, mg = Ab2 gs := ⟨_, rfl⟩
 have T3 : Aa2 (TB B w3.heap.size 226 [] (fun _ => True) gs (.slice A3 gs.length c3) bm D (w3.alloc (.cells #[.slice A3 gs.length c3, .map (some bm), .int .i64 mg] 226))) := ⟨{
  box := by rw [hmg]; exact Aa6 w3 _
  row := Kd.Ac5 hr3 (bz_)
  map := hm3.alloc _
  pm := HT2.out.pm
  hg := Nat.le_trans hBz hb3.size
  hb := Nat.le_trans hBz hbm
  tab := (HT2.out.tab.on (hb3.mono hBz)).on ((Below.refl B _).alloc (Nat.le_trans hBz hb3.size) _) }⟩
 have HMG := zA hmg
 rw [← hmg]
 clear hr3 hm3 hbm hb3 hBz hmg
 go_wp2_with fail
 have hbw : Below w.heap.size w (w3.alloc (.cells #[.slice A3 gs.length c3, .map (some bm), .int .i64 mg] 226)) := (HB2.out.trans (HB3.out.mono HB2.out.size)).trans ((Below.refl w.heap.size _).alloc (Nat.le_trans HB2.out.size HB3.out.size) _)
 have hz1 : w.heap.size ≤ w3.heap.size := Nat.le_trans HB2.out.size HB3.out.size
 have hz2 : w.heap.size ≤ bm := Nat.le_trans HB2.out.size HBM.out
 have HBW := zA hbw
 have HZ1 := zA hz1
 have HZ2 := zA hz2
 refine (Bf8 ⟨B, w3.heap.size, 226, [], gs, bm, l, 10000, w3.alloc (.cells #[.slice A3 gs.length c3, .map (some bm), .int .i64 mg] 226)⟩ _ D A c T3.out (Or.inr rfl) (Nat.le_trans HB.out hbw.size) (HLR.out _ _ _ hbw hz1 hz2) hcap (HIN.out HCLO.out) HW.out HL.out HM0.out HG0.out ⟨by show (0 : Int) ≤ 10000; decide, by show (10000 : Int) ≤ 9223372036854775807; decide⟩).mono ?_
 intro e w4 hout
 unfold Ca1 at hout
 dsimp only at hout
 obtain ⟨st, hst⟩ : ∃ st, st = Ae1 10000 (gs, []) l := ⟨_, rfl⟩
 rw [← hst] at hout
 have HST := zA hst
 clear hst hbw hz1 hz2
 rcases st with _ | ⟨gs', ids⟩
 ·obtain ⟨n, gs1, v1, D1, rfl, ht4, hf4⟩ := hout
  have HF := zA hf4
  clear ht4 hf4
  have hn0 : (0 : Int) ≤ n := by omega
  go_wp2_with fail
  go_ret3
  refine Or.inr ⟨HCLO.out, ?_⟩
  rw [← HST.out]
  exact ⟨⟨n, rfl⟩, FrA.sub HBW.out HF.out HB.out HZ1.out HZ2.out⟩
 ·obtain ⟨v4, D4, vi, rfl, hai⟩ := hout
  have HAI := zA hai
  have T4 := zA hai.tb
  have HF := zA (FrA.sub (g := g) (b := b) HBW.out hai.fr HB.out HZ1.out HZ2.out)
  have hbx := T4.out.box
  dsimp only at hbx
  obtain ⟨q0, q1, q2⟩ := Au0 hbx
  obtain ⟨A4, n4, c4, e4⟩ : ∃ A4 n4 c4, v4 = .slice A4 n4 c4 := by obtain ⟨A4, c4, e4⟩ := Kd.Aa9 T4.out.row; exact ⟨_, _, _, e4⟩
  subst e4
  have bx : w4.heap[g]? = some (.cells (v :: .map (some b) :: .int .i64 (Ab2 gs) :: [.bool true]).toArray 228 (0, 0)) := by
   refine hai.fr.oth g _ ?_ ?_ ?_ ?_
   ·exact (HBW.out.block g (Ac0 HT.out.box)).trans HT.out.box
   ·dsimp only; have := HZ1.out; have := Ac0 HT.out.box; omega
   ·dsimp only; have := HZ2.out; have := Ac0 HT.out.box; omega
   ·intro c_ fz_ e_; injection e_ with _ e_; exact absurd e_ (by decide)
  have BX := zA bx
  obtain ⟨m4, hm4⟩ : ∃ m4 : Int, m4 = Ab2 gs' := ⟨_, rfl⟩
  rw [← hm4] at q2
  have HM4 := zA hm4
  obtain ⟨r0, r1, r2⟩ := Au0 bx
  have f0 : w4.frozen? ⟨g, 0, none⟩ = false := Aa1 bx 0
  have f1 : w4.frozen? ⟨g, 1, none⟩ = false := Aa1 bx 1
  have f2 : w4.frozen? ⟨g, 2, none⟩ = false := Aa1 bx 2
  clear hai hbx bx hm4
  go_wp2_with fail
  go_ret3
  refine Or.inr ⟨HCLO.out, ?_⟩
  rw [← HST.out]
  have b1 := Aa7 (Aa7 (Aa7 BX.out 0 (.slice A4 n4 c4)) 1 (.map (some bm))) 2 (.int .i64 m4)
  have hg : B ≤ g := HT.out.hg
  refine ⟨vi, .slice A4 n4 c4, bm, D4, rfl, ?_, ?_, ?_⟩
  ·refine ⟨by rw [← HM4.out]; simpa using b1, ?_, ?_, HAI.out.tb.pm, hg, HAI.out.tb.hb, ?_⟩
   ·exact Kd.Ac3 (Kd.Ac3 (Kd.Ac3 T4.out.row BX.out (by decide) 0 _) (Aa7 BX.out 0 _) (by decide) 1 _) (Aa7 (Aa7 BX.out 0 _) 1 _) (by decide) 2 _
   ·have hne : bm ≠ g := by have := HZ2.out; have := Ac0 HT.out.box; omega
    have ks : ∀ {W : World} {n : Nat} (i : Nat) (u : Value), W.ownsMap Tryz.prog 9 (plainElem (H := Unit) Tryz.prog 3) bm n D4 → (W.setCell ⟨g, i, none⟩ u).ownsMap Tryz.prog 9 (plainElem (H := Unit) Tryz.prog 3) bm n D4 := fun {W n} i u h => h.kept (row := some g) ⟨rfl, rfl, rfl, by simp, fun k _ hk => Below.heap_setCell W ⟨g, i, none⟩ u k (by rintro rfl; exact hk rfl)⟩ (by intro e; injection e with e; exact hne e)
    exact ks 2 _ (ks 1 _ (ks 0 _ T4.out.map))
   ·exact T4.out.tab.on ((((Below.refl B _).setCell (p := ⟨g, 0, none⟩) hg _).setCell (p := ⟨g, 1, none⟩) hg _).setCell (p := ⟨g, 2, none⟩) hg _)
  ·exact Kd.Ac3 (Kd.Ac3 (Kd.Ac3 (Kd.Ak4 HAI.out.iv (by have := HBW.out.size; exact this)) BX.out (by decide) 0 _) (Aa7 BX.out 0 _) (by decide) 1 _) (Aa7 (Aa7 BX.out 0 _) 1 _) (by decide) 2 _
  ·exact ((HF.out.store hg 0 _).store hg 1 _).store hg 2 _
end Go.Proofs.YtohlmkcgempdlaaGreatDoor.Cn
namespace Go.Proofs.YtohlmkcgempdlaaGreatDoor.Cn
set_option linter.unusedSimpArgs false
set_option maxRecDepth 100000
set_option linter.unusedVariables false
open Go.RowKit Go.Maps Go.Proofs.YtohlmkcgempdlaaGreatDoorW.PrintWords Go.Proofs.YtohlmkcgempdlaaGreatDoorW.PrintLast Go.Proofs.YtohlmkcgempdlaaGreatDoorW.PrintMore Go.Proofs.YtohlmkcgempdlaaGreatDoor.QD
end Go.Proofs.YtohlmkcgempdlaaGreatDoor.Cn
namespace Go.Proofs.YtohlmkcgempdlaaGreatDoor.QD
open Go.RowKit Go.Proofs.YtohlmkcgempdlaaGreatDoorW.PrintWords Go.Proofs.YtohlmkcgempdlaaGreatDoorW.PrintLast Go.Proofs.YtohlmkcgempdlaaGreatDoorW.PrintMore
attribute [local go_sem] An1 Am9 Ar1 Ar0 Ak8 Ak7 An0 Am8 
set_option linter.unusedVariables false
set_option linter.unusedSimpArgs false
set_option maxRecDepth 100000
def types_Count.l0 : Nat → Int → List (S132) → Int → Int → Option (Int)
 | 0, _, _, _, _ => none
 | k + 1, x3, x6, x7, x8 => if x8 < x7 then (if 0 ≤ x8 then (if x8 < (x6.length : Int) then (types_Count.l0 k (wrap64 (x3 + (((Ad5 x6 x8).f0).length : Int))) x6 x7 (wrap64 (x8 + 1))) else (none)) else (none)) else (some x3)
def types_Count.f (k : Nat) (l0 : List (S132)) : Option (Int) := types_Count.l0 k 0 l0 (l0.length : Int) 0
set_option maxHeartbeats 8000000 in
theorem types_Count.calls (k : Nat) (A0 : Option Addr) (c0 : Nat) (l0 : List (S132)) (r : Int) (w : World) (hr0 : Kd.C k132 w A0 l0.length l0) (hc0 : l0.length ≤ c0) (h : types_Count.f k l0 = some r) :
  Calls Tryz.prog 60 #[.slice A0 l0.length c0] w fun e w' => e = .returned (.int .i64 r) ∧ Below w.heap.size w w' := by
 have hu132 := Tryz.underlying132
 have HR0 := zA hr0
 have HC0 := zA hc0
 clear hr0 hc0
 have HB := zA (Below.refl w.heap.size w)
 have H : (types_Count.l0 k 0 l0 (l0.length : Int) 0) = some r := h
 clear h
 have H' := zA H
 clear H
 go_enter Tryz.func60, Tryz.ntmps60
 go_wp2
 go_loopg [3, 8] k (fun kq v3 v8 w' => ∃ (x3_1 : Int) (x8_1 : Int), v3 = .int .i64 x3_1 ∧ v8 = .int .i64 x8_1 ∧ Aa2 (types_Count.l0 kq x3_1 l0 (l0.length : Int) x8_1 = some r) ∧ Aa2 (kq ≤ k) ∧ Aa2 (Below w.heap.size w w'))
 case atStart => exact ⟨(0), (0), (by first | rfl | (simp; done) | (simp [*]; done)), (by first | rfl | (simp; done) | (simp [*]; done)), H', ⟨Nat.le_refl _⟩, ⟨hz_⟩⟩
 case round =>
  clear H'
  obtain ⟨x3_1, x8_1, rfl, rfl, HA, HK1, HB⟩ := hrel
  cases gk with
  | zero => exact absurd HA.out (by simp [types_Count.l0])
  | succ k1 =>
   have H := HA.out
   clear HA
   simp only [types_Count.l0] at H
   by_cases c2 : x8_1 < (l0.length : Int)
   ·rw [if_pos c2] at H
    have c2b0 : decide (x8_1 < (l0.length : Int)) = true := decide_eq_true c2
    clear c2
    by_cases c3 : 0 ≤ x8_1
    ·rw [if_pos c3] at H
     have c3b0 : decide (0 ≤ x8_1) = true := decide_eq_true c3
     clear c3
     by_cases c4 : x8_1 < (l0.length : Int)
     ·rw [if_pos c4] at H
      have c4b0 : decide (x8_1 < (l0.length : Int)) = true := decide_eq_true c4
      clear c4
      have H' := zA H
      clear H
      have p213 : 0 ≤ (x8_1 : Int) := of_decide_eq_true (by first | (with_reducible assumption) | assumption)
      have q213 : x8_1 < (l0.length : Int) := of_decide_eq_true (by first | (with_reducible assumption) | assumption)
      obtain ⟨ad213, A213_0, c213_0, e213, hx213_0, hx213_1, hl213_0, hi213_0⟩ := Aq1 HR0.out x8_1 p213 q213
      cases e213
      replace hx213_0 := (HB.out.cell (World.block_lt_of_cell? w _ hx213_0)).trans hx213_0
      replace hx213_1 := (HB.out.cell (World.block_lt_of_cell? w _ hx213_1)).trans hx213_1
      have HR213_0 := zA hi213_0
      have HC213_0 := zA hl213_0
      clear hi213_0 hl213_0
      replace p213 := eq_true p213
      replace q213 := eq_true q213
      go_wp2_with (first | ((with_reducible refine gate_dst (N := 5) rfl ?_); refine Cl3 ?hg (N := 5) ?hd (cs := #[.slice none 0 0, .bool false]) (t := 132) ?hr ?_; (case hd => rfl); (case hg => rfl); (case hr => first | (go_simp; done) | (go_simp; rfl)); intro gb214 hg w5 hbox hb; have n0_ := zA (Ce2 (hz_) hb); have n1_ := zA (hbox); have n2_ := zA ((by rw [hg]; exact (Bj5 (hz_)) : w.heap.size ≤ gb214)); have n3_ := zA ((by rw [hg]; exact (Bj5 (hz_)) : w.heap.size ≤ gb214)); clear HB; have HB := n0_; have BK214 := n1_; have GW214 := n2_; have GE214 := n3_; clear n0_ n1_ n2_ n3_; clear hb hbox hg; have hcz6_0 : w5.cell? ⟨gb214, 0, none⟩ = some (.slice none 0 0) := (Aa0 BK214.out 0).trans rfl; have hcz6_1 : w5.cell? ⟨gb214, 1, none⟩ = some (.bool false) := (Aa0 BK214.out 1).trans rfl; have hfz6_0 := Aa1 BK214.out 0; have hfz6_1 := Aa1 BK214.out 1))
      go_roundg k1
      case measure => have := HK1.out; omega
      case rel => exact ⟨(wrap64 (x3_1 + (((Ad5 l0 x8_1).f0).length : Int))), (wrap64 (x8_1 + 1)), (by first | rfl | (simp; done) | (simp [*]; done)), (by first | rfl | (simp; done) | (simp [*]; done)), H', ⟨by have := HK1.out; omega⟩, ⟨by repeat (first | (with_reducible first | exact HB.out | apply Ak2 | apply At6 | apply Bf7 | refine Cl4 ?_ GE214.out) | exact HB.out)⟩⟩
     ·rw [if_neg c4] at H
      exact absurd H (by simp)
    ·rw [if_neg c3] at H
     exact absurd H (by simp)
   ·rw [if_neg c2] at H
    have c2b0 : decide (x8_1 < (l0.length : Int)) = false := decide_eq_false c2
    clear c2
    obtain rfl := Option.some.inj H
    go_wp2
    go_ret
    exact ⟨by first | rfl | (simp [Br5, Br4] <;> rfl) | (simp [*, Br5, Br4] <;> rfl), hz_⟩
end Go.Proofs.YtohlmkcgempdlaaGreatDoor.QD
namespace Go.Proofs.YtohlmkcgempdlaaGreatDoor.Cn
set_option linter.unusedSimpArgs false
set_option maxRecDepth 100000
set_option linter.unusedVariables false
open Go.RowKit Go.Maps Go.Proofs.YtohlmkcgempdlaaGreatDoorW.PrintWords Go.Proofs.YtohlmkcgempdlaaGreatDoorW.PrintLast Go.Proofs.YtohlmkcgempdlaaGreatDoorW.PrintMore Go.Proofs.YtohlmkcgempdlaaGreatDoor.QD
theorem Ak3 (most : Int) (l : List S132) (gs : List (List S123)) (ids : List Int) (h : Ab2 gs + Aa8 l ≤ most) : ∃ gs' ids', Ae1 most (gs, ids) l = some (gs', ids') ∧ Ab2 gs' ≤ Ab2 gs + Aa8 l ∧ ids'.length = ids.length + Aa8 l ∧ gs'.length ≤ gs.length + l.length := by
 induction l generalizing gs ids with
 | nil => exact ⟨gs, ids, rfl, by simp [Aa8], by simp [Aa8], by simp⟩
 | cons r l ih =>
  have ht : Aa8 (r :: l) = r.f0.length + Aa8 l := by simp [Aa8]
  rw [ht] at h ⊢
  simp only [Ae1]
  unfold Ad4
  dsimp only
  cases hf : Ak9 gs (ownG ids r) with
  | some p =>
   obtain ⟨gs', ids', h1, h2, h3, h4⟩ := ih gs (ids ++ Ac8 (Ab8 gs p) (ownG ids r).length) (by omega)
   refine ⟨gs', ids', h1, by omega, ?_, by simp; omega⟩
   rw [h3, List.length_append, Ac4, Ac1]
   omega
  | none =>
   dsimp only
   rw [if_neg (by rw [Ac1]; omega)]
   obtain ⟨gs', ids', h1, h2, h3, h4⟩ := ih (gs ++ [ownG ids r]) (ids ++ Ac8 (Ab2 gs) (ownG ids r).length) (by rw [Ak0, Ac1]; omega)
   rw [Ak0, Ac1] at h2
   rw [List.length_append, Ac4, Ac1] at h3
   rw [List.length_append, List.length_singleton] at h4
   exact ⟨gs', ids', h1, by omega, by omega, by simp; omega⟩
theorem Bs8 (l : List S132) (j : Nat) (r : S132) (h : l[j]? = some r) : Aa8 (l.drop j) = r.f0.length + Aa8 (l.drop (j + 1)) := by
 obtain ⟨hj, rfl⟩ := List.getElem?_eq_some_iff.1 h
 rw [List.drop_eq_getElem_cons hj]
 unfold Aa8
 rw [List.map_cons, List.sum_cons]
theorem step_l0 (m : Nat) (n : Int) (l : List S132) (L j : Int) (h1 : j < L) (h2 : 0 ≤ j) (h3 : j < l.length) : types_Count.l0 (m + 1) n l L j = types_Count.l0 m (wrap64 (n + ((Ad5 l j).f0.length : Int))) l L (wrap64 (j + 1)) := by
 rw [types_Count.l0, if_pos h1, if_pos h2, if_pos h3]
theorem end_l0 (m : Nat) (n : Int) (l : List S132) (L j : Int) (h1 : ¬ j < L) : types_Count.l0 (m + 1) n l L j = some n := by
 rw [types_Count.l0, if_neg h1]
theorem count_l0 (l : List S132) (L : Nat) (hL : L = l.length) (hl : L ≤ 1099511627776) (m j : Nat) (hm : j + m = L) (n : Int) (h0 : 0 ≤ n) (hn : n + (Aa8 (l.drop j) : Int) ≤ 2199023255552) : types_Count.l0 (m + 1) n l (L : Int) (j : Int) = some (n + (Aa8 (l.drop j) : Int)) := by
 induction m generalizing j n with
 | zero =>
  have : j = L := by omega
  subst this
  rw [end_l0 _ _ _ _ _ (Int.lt_irrefl _), hL, List.drop_length]
  simp [Aa8]
 | succ m ih =>
  have hlt : j < l.length := by omega
  have hr := Ba2 l j hlt
  have hd := Bs8 l j _ hr
  obtain ⟨q, hq⟩ : ∃ q : Nat, q = (Ad5 l (j : Int)).f0.length := ⟨_, rfl⟩
  obtain ⟨t1, ht1⟩ : ∃ t1 : Nat, t1 = Aa8 (l.drop (j + 1)) := ⟨_, rfl⟩
  rw [← hq, ← ht1] at hd
  rw [hd] at hn ⊢
  have e1 : (j : Int) < (L : Int) := by omega
  have e2 : (0 : Int) ≤ (j : Int) := Int.natCast_nonneg j
  have e3 : (j : Int) < (l.length : Int) := by omega
  have e4 : n + (q : Int) + (t1 : Int) = n + ((q + t1 : Nat) : Int) := by omega
  have a1 : j + 1 + m = L := by omega
  have a2 : 0 ≤ n + (q : Int) := by omega
  have a3 : n + (q : Int) + (t1 : Int) ≤ 2199023255552 := by omega
  have w1 : wrap64 (n + (q : Int)) = n + (q : Int) := by unfold wrap64; omega
  have w2 : wrap64 ((j : Int) + 1) = ((j + 1 : Nat) : Int) := by unfold wrap64; omega
  rw [ht1] at a3
  have h3 := ih (j + 1) a1 (n + (q : Int)) a2 a3
  rw [step_l0 (m + 1) n l L j e1 e2 e3, ← hq, w1, w2, h3, ← ht1, e4]
theorem count_eq (l : List S132) (ht : Aa8 l ≤ 1099511627776) (hl : l.length ≤ 1099511627776) : types_Count.f (l.length + 1) l = some (Aa8 l : Int) := by
 unfold types_Count.f
 have h := count_l0 l l.length rfl hl l.length 0 (Nat.zero_add _) 0 (Int.le_refl _) (by rw [List.drop_zero]; omega)
 rw [List.drop_zero, Int.zero_add] at h
 exact h
theorem Bf4 (A : Option Addr) (c : Nat) (l : List S132) (w : World) (hC : Kd.C k132 w A l.length l) (hc : l.length ≤ c) (ht : Aa8 l ≤ 1099511627776) (hl : l.length ≤ 1099511627776) :
  Calls Tryz.prog 60 #[.slice A l.length c] w fun e w' => e = .returned (.int .i64 (Aa8 l : Int)) ∧ Below w.heap.size w w' := types_Count.calls (l.length + 1) A c l _ w hC hc (count_eq l ht hl)
noncomputable def Aq8 (a b : List S132) : List Int × List Int :=
 match Ae1 9223372036854775807 ([], []) a with
 | none => ([], [])
 | some (g1, i1) => match Ae1 9223372036854775807 (g1, []) b with
  | none => ([], [])
  | some (g2, i2) => (i1, i2)
open Classical in
noncomputable def oneM (a b : List S132) (x y : Int) : Bool × Int :=
 if Clo a ∧ Clo b then
  if 0 ≤ x ∧ x < Aa8 a ∧ 0 ≤ y ∧ y < Aa8 b then (rd (Aq8 a b).1 x == rd (Aq8 a b).2 y, 0) else (false, 1)
 else (false, 50)
end Go.Proofs.YtohlmkcgempdlaaGreatDoor.Cn
namespace Go.Proofs.YtohlmkcgempdlaaGreatDoor.Cn
set_option linter.unusedSimpArgs false
set_option maxRecDepth 100000
open Go.RowKit Go.Maps Go.Proofs.YtohlmkcgempdlaaGreatDoorW.PrintWords Go.Proofs.YtohlmkcgempdlaaGreatDoorW.PrintLast Go.Proofs.YtohlmkcgempdlaaGreatDoor.QD
def Dec {α : Type} (f : α → List UInt8) : Prop := ∀ a b s t, f a ++ s = f b ++ t → a = b ∧ s = t
theorem split_at (x : UInt8) (l1 l2 s t : List UInt8) (h1 : x ∉ l1) (h2 : x ∉ l2) (h : l1 ++ x :: s = l2 ++ x :: t) : l1 = l2 ∧ s = t := by
 induction l1 generalizing l2 with
 | nil =>
  cases l2 with
  | nil => simp at h; exact ⟨rfl, h⟩
  | cons y l2 => simp at h; exact absurd h.1 (fun e => h2 (by simp [e]))
 | cons y l1 ih =>
  cases l2 with
  | nil => simp at h; exact absurd h.1 (fun e => h1 (by simp [e]))
  | cons z l2 =>
   simp at h
   obtain ⟨rfl, h⟩ := h
   obtain ⟨rfl, rfl⟩ := ih l2 (fun hm => h1 (by simp [hm])) (fun hm => h2 (by simp [hm])) h
   exact ⟨rfl, rfl⟩
def valD (l : List UInt8) : Nat := l.foldl (fun n c => 10 * n + (c.toNat - 48)) 0
theorem Ap9 (d : Nat) (h : d < 10) : (UInt8.ofNat (48 + d)).toNat = 48 + d := by
 rw [UInt8.toNat_ofNat']
 omega
theorem Ba1 (u : Nat) : valD (Lib.decDigits u) = u := by
 induction u using Nat.strongRecOn with
 | ind u ih =>
  rw [Lib.decDigits]
  split
  ·rename_i h
   simp only [valD, List.foldl_cons, List.foldl_nil]
   rw [Ap9 u h]
   omega
  ·rename_i h
   have h1 := ih (u / 10) (by omega)
   unfold valD at h1 ⊢
   rw [List.foldl_append, h1]
   simp only [List.foldl_cons, List.foldl_nil]
   rw [Ap9 (u % 10) (by omega)]
   omega
theorem Bf3 (u : Nat) : ∀ c ∈ Lib.decDigits u, 48 ≤ c.toNat ∧ c.toNat ≤ 57 := by
 induction u using Nat.strongRecOn with
 | ind u ih =>
  rw [Lib.decDigits]
  split
  ·rename_i h
   intro c hc
   rw [List.mem_singleton.1 hc, Ap9 u h]
   omega
  ·rename_i h
   intro c hc
   rcases List.mem_append.1 hc with hc | hc
   ·exact ih (u / 10) (by omega) c hc
   ·rw [List.mem_singleton.1 hc, Ap9 (u % 10) (by omega)]
    omega
theorem Ck5 (u : Nat) : ∃ c l, Lib.decDigits u = c :: l ∧ 48 ≤ c.toNat := by
 have h := Lib.decDigits_length u
 have h1 := Lib.nDigits_pos u
 cases e : Lib.decDigits u with
 | nil => rw [e] at h; simp at h; omega
 | cons c l => exact ⟨c, l, rfl, (Bf3 u c (by rw [e]; simp)).1⟩
theorem Cj6 (i : Int) (x : UInt8) (hx : x.toNat < 45) : x ∉ Lib.itoa i := by
 intro h
 unfold Lib.itoa at h
 split at h
 ·rcases List.mem_cons.1 h with h | h
  ·subst h; revert hx; decide
  ·have := Bf3 _ _ h; omega
 ·have := Bf3 _ _ h; omega
theorem itoa_inj (i j : Int) (h : Lib.itoa i = Lib.itoa j) : i = j := by
 unfold Lib.itoa at h
 split at h <;> split at h
 ·injection h with _ h
  have := congrArg valD h
  rw [Ba1, Ba1] at this
  omega
 ·obtain ⟨c, l, e, hc⟩ := Ck5 j.toNat
  rw [e] at h
  injection h with h _
  subst h
  exact absurd hc (by decide)
 ·obtain ⟨c, l, e, hc⟩ := Ck5 i.toNat
  rw [e] at h
  injection h with h _
  subst h
  exact absurd hc (by decide)
 ·have := congrArg valD h
  rw [Ba1, Ba1] at this
  omega
theorem Be2 (i : Int) : ∃ c l, Lib.itoa i = c :: l ∧ c ≠ 43 := by
 unfold Lib.itoa
 split
 ·exact ⟨45, _, rfl, by decide⟩
 ·obtain ⟨c, l, e, hc⟩ := Ck5 i.toNat
  exact ⟨c, l, e, by rintro rfl; revert hc; decide⟩
theorem Ax9 : Dec numT := by
 intro a b s t h
 simp only [numT, List.append_assoc, List.cons_append, List.nil_append] at h
 obtain ⟨h1, h2⟩ := split_at 32 _ _ _ _ (Cj6 a 32 (by decide)) (Cj6 b 32 (by decide)) h
 exact ⟨itoa_inj a b h1, h2⟩
theorem Aq0 (a b : Bool) (i j : Int) (s t : List UInt8) (h : Aj6 a ++ (numT i ++ s) = Aj6 b ++ (numT j ++ t)) : a = b ∧ i = j ∧ s = t := by
 obtain ⟨c, l, e, hc⟩ := Be2 i
 obtain ⟨c', l', e', hc'⟩ := Be2 j
 cases a <;> cases b
 ·obtain ⟨h1, h2⟩ := Ax9 _ _ _ _ h
  exact ⟨rfl, h1, h2⟩
 ·simp only [Aj6, numT, e, List.cons_append, List.nil_append] at h
  injection h with h _
  exact absurd h hc
 ·simp only [Aj6, numT, e', List.cons_append, List.nil_append] at h
  injection h with h _
  exact absurd h.symm hc'
 ·simp only [Aj6, List.cons_append, List.nil_append] at h
  injection h with _ h
  obtain ⟨h1, h2⟩ := Ax9 _ _ _ _ h
  exact ⟨rfl, h1, h2⟩
theorem Ck4 : Dec valT := by
 intro a b s t h
 simp only [valT, List.append_assoc] at h
 obtain ⟨h1, h⟩ := Ax9 _ _ _ _ h
 obtain ⟨h2, h3, h4⟩ := Aq0 _ _ _ _ _ _ h
 refine ⟨?_, h4⟩
 obtain ⟨a0, a1, a2⟩ := a
 obtain ⟨b0, b1, b2⟩ := b
 simp only at h1 h2 h3
 subst h1 h2 h3
 rfl
theorem Ck6 : Dec Al1 := by
 intro a b s t h
 simp only [Al1, valT, List.append_assoc] at h
 obtain ⟨h1, h2, h⟩ := Aq0 _ _ _ _ _ _ h
 obtain ⟨h3, h4, h5⟩ := Aq0 _ _ _ _ _ _ h
 refine ⟨?_, h5⟩
 obtain ⟨⟨a0, a1, a2⟩, a3⟩ := a
 obtain ⟨⟨b0, b1, b2⟩, b3⟩ := b
 simp only at h1 h2 h3 h4
 subst h1 h2 h3 h4
 rfl
theorem Bz2 {α : Type} (g : α → List UInt8) (hg : Dec g) (l m : List α) (hl : l.length = m.length) (s t : List UInt8) (h : l.flatMap g ++ s = m.flatMap g ++ t) : l = m ∧ s = t := by
 induction l generalizing m with
 | nil =>
  cases m with
  | nil => exact ⟨rfl, by simpa using h⟩
  | cons y m => simp at hl
 | cons x l ih =>
  cases m with
  | nil => simp at hl
  | cons y m =>
   simp only [List.flatMap_cons, List.append_assoc] at h
   obtain ⟨e1, h1⟩ := hg _ _ _ _ h
   obtain ⟨e2, h2⟩ := ih m (by simpa using hl) h1
   exact ⟨by rw [e1, e2], h2⟩
theorem Bf2 {α : Type} (g : α → List UInt8) (hg : Dec g) (l m : List α) (s t : List UInt8) (h : numT l.length ++ (l.flatMap g ++ s) = numT m.length ++ (m.flatMap g ++ t)) : l = m ∧ s = t := by
 obtain ⟨h1, h⟩ := Ax9 _ _ _ _ h
 exact Bz2 g hg l m (by omega) s t h
theorem dec_sub : Dec subT := by
 intro a b s t h
 simp only [subT, List.append_assoc] at h
 obtain ⟨h0, hn, h⟩ := Aq0 _ _ _ _ _ _ h
 obtain ⟨h1, h⟩ := Bz2 numT Ax9 _ _ (by omega) _ _ h
 obtain ⟨h2, h⟩ := Ax9 _ _ _ _ h
 obtain ⟨h3, h⟩ := Bf2 valT Ck4 _ _ _ _ h
 obtain ⟨h4, h⟩ := Bf2 valT Ck4 _ _ _ _ h
 obtain ⟨h5, h⟩ := Bf2 Al1 Ck6 _ _ _ _ h
 refine ⟨?_, h⟩
 obtain ⟨a0, a1, ⟨a2, a3, a4, a5⟩⟩ := a
 obtain ⟨b0, b1, ⟨b2, b3, b4, b5⟩⟩ := b
 simp only at h0 h1 h2 h3 h4 h5
 subst h0 h1 h2 h3 h4 h5
 rfl
theorem Cf3 (s : S123) : subT s ≠ [] := by
 obtain ⟨c, l, e, _⟩ := Be2 s.f1.length
 intro h
 have := congrArg List.length h
 simp [subT, numT, e] at this
theorem Ba8 (l m : List S123) (h : keyT l = keyT m) : l = m := by
 induction l generalizing m with
 | nil =>
  cases m with
  | nil => rfl
  | cons y m =>
   simp only [keyT, List.flatMap_nil, List.flatMap_cons] at h
   have := List.append_eq_nil_iff.1 h.symm
   exact absurd this.1 (Cf3 y)
 | cons x l ih =>
  cases m with
  | nil =>
   simp only [keyT, List.flatMap_nil, List.flatMap_cons] at h
   have := List.append_eq_nil_iff.1 h
   exact absurd this.1 (Cf3 x)
  | cons y m =>
   simp only [keyT, List.flatMap_cons] at h
   obtain ⟨e1, h1⟩ := dec_sub _ _ _ _ h
   rw [e1, ih m h1]
end Go.Proofs.YtohlmkcgempdlaaGreatDoor.Cn
namespace Go.Proofs.YtohlmkcgempdlaaGreatDoor.Cn
set_option linter.unusedSimpArgs false
set_option maxRecDepth 100000
set_option linter.unusedVariables false
open Go.RowKit Go.Maps Go.Proofs.YtohlmkcgempdlaaGreatDoorW.PrintWords Go.Proofs.YtohlmkcgempdlaaGreatDoorW.PrintLast Go.Proofs.YtohlmkcgempdlaaGreatDoorW.PrintMore Go.Proofs.YtohlmkcgempdlaaGreatDoor.QD
def Dist (gs : List (List S123)) : Prop := ∀ (i j : Nat) (x : List S123), gs[i]? = some x → gs[j]? = some x → i = j
theorem Dist.nil : Dist [] := fun i j x h => by simp at h
theorem Dist.snoc {gs : List (List S123)} {o : List S123} (h : Dist gs) (hn : ∀ x ∈ gs, x ≠ o) : Dist (gs ++ [o]) := by
 intro i j x hi hj
 have key : ∀ (i : Nat), (gs ++ [o])[i]? = some x → (gs[i]? = some x) ∨ (i = gs.length ∧ x = o) := by
  intro i hi
  rcases Nat.lt_or_ge i gs.length with h1 | h1
  ·rw [List.getElem?_append_left h1] at hi; exact .inl hi
  ·rw [List.getElem?_append_right h1] at hi
   have h2 := (List.getElem?_eq_some_iff.1 hi).1
   simp at h2
   have h3 : i = gs.length := by omega
   subst h3
   simp at hi
   exact .inr ⟨rfl, hi.symm⟩
 rcases key i hi with h1 | ⟨h1, e1⟩ <;> rcases key j hj with h2 | ⟨h2, e2⟩
 ·exact h i j x h1 h2
 ·exact absurd e2 (hn x (List.mem_of_getElem? h1))
 ·exact absurd e1 (hn x (List.mem_of_getElem? h2))
 ·omega
theorem At9 (gs t : List (List S123)) (i : Nat) (h : i ≤ gs.length) : Ab8 (gs ++ t) i = Ab8 gs i := by
 unfold Ab8
 rw [List.take_append_of_le_length h]
theorem Bh4 (gs : List (List S123)) : Ab8 gs gs.length = Ab2 gs := by unfold Ab8; rw [List.take_length]
theorem Be4 (n : Int) (k o : Nat) (h : o < k) : (Ac8 n k)[o]? = some (n + o) := by
 unfold Ac8
 rw [List.getElem?_map, List.getElem?_range h]
 rfl
theorem Bs0 {most : Int} {gs0 gs' : List (List S123)} {ids0 ids' : List Int} {r : S132} (h : Ad4 most (gs0, ids0) r = some (gs', ids')) (hd : Dist gs0) :
  Dist gs' ∧ (∃ t, gs' = gs0 ++ t) ∧ ∃ idx, gs'[idx]? = some (ownG ids0 r) ∧ ids' = ids0 ++ Ac8 (Ab8 gs' idx) r.f0.length := by
 unfold Ad4 at h
 dsimp only at h
 cases hf : Ak9 gs0 (ownG ids0 r) with
 | some i =>
  rw [hf] at h
  simp only [Option.some.injEq, Prod.mk.injEq] at h
  obtain ⟨rfl, rfl⟩ := h
  obtain ⟨x, hx, hk⟩ := As8 hf
  have := Ba8 _ _ hk
  subst this
  exact ⟨hd, ⟨[], by simp⟩, i, hx, by rw [Ac1]⟩
 | none =>
  rw [hf] at h
  dsimp only at h
  split at h
  ·cases h
  ·simp only [Option.some.injEq, Prod.mk.injEq] at h
   obtain ⟨rfl, rfl⟩ := h
   have hn := As9 hf
   refine ⟨hd.snoc (fun x hx e => hn x hx (by rw [e])), ⟨_, rfl⟩, gs0.length, by simp, ?_⟩
   rw [At9 _ _ _ (Nat.le_refl _), Bh4, Ac1]
theorem At2 (most : Int) (l : List S132) : ∀ (gs0 gs' : List (List S123)) (ids0 ids' : List Int), Ae1 most (gs0, ids0) l = some (gs', ids') → Dist gs0 →
  Dist gs' ∧ (∃ t, gs' = gs0 ++ t) ∧ (∃ t, ids' = ids0 ++ t ∧ t.length = Aa8 l) ∧
  ∀ (j : Nat) (r : S132), l[j]? = some r → ∃ idx, gs'[idx]? = some (ownG (ids'.take (ids0.length + Aa8 (l.take j))) r) ∧ ∀ o, o < r.f0.length → ids'[ids0.length + Aa8 (l.take j) + o]? = some (Ab8 gs' idx + o) := by
 induction l with
 | nil =>
  intro gs0 gs' ids0 ids' h hd
  simp only [Ae1, Option.some.injEq, Prod.mk.injEq] at h
  obtain ⟨rfl, rfl⟩ := h
  exact ⟨hd, ⟨[], by simp⟩, ⟨[], by simp, by simp [Aa8]⟩, fun j r hj => by simp at hj⟩
 | cons r l ih =>
  intro gs0 gs' ids0 ids' h hd
  simp only [Ae1] at h
  cases hs : Ad4 most (gs0, ids0) r with
  | none => rw [hs] at h; cases h
  | some st =>
   obtain ⟨gs1, ids1⟩ := st
   rw [hs] at h
   simp only [Option.bind_some] at h
   obtain ⟨hd1, ⟨t1, ht1⟩, idx, hx, hi⟩ := Bs0 hs hd
   obtain ⟨hd2, ⟨t2, ht2⟩, ⟨u, hu, hul⟩, hall⟩ := ih gs1 gs' ids1 ids' h hd1
   have hl1 : ids1.length = ids0.length + r.f0.length := by rw [hi, List.length_append, Ac4]
   refine ⟨hd2, ⟨t1 ++ t2, by rw [ht2, ht1, List.append_assoc]⟩, ⟨Ac8 (Ab8 gs1 idx) r.f0.length ++ u, by rw [hu, hi, List.append_assoc], ?_⟩, ?_⟩
   ·rw [List.length_append, Ac4, hul]; simp [Aa8]
   ·intro j q hj
    cases j with
    | zero =>
     simp at hj
     subst hj
     have hidx : idx < gs1.length := (List.getElem?_eq_some_iff.1 hx).1
     refine ⟨idx, ?_, fun o ho => ?_⟩
     ·have e : ids'.take (ids0.length + Aa8 ((r :: l).take 0)) = ids0 := by
       rw [hu, hi, List.append_assoc]
       simp [Aa8]
      rw [e, ht2, List.getElem?_append_left hidx]
      exact hx
     ·have e : ids0.length + Aa8 ((r :: l).take 0) + o = ids0.length + o := by simp [Aa8]
      rw [e, hu, hi, List.append_assoc, List.getElem?_append_right (by omega), List.getElem?_append_left (by rw [Ac4]; omega)]
      have e2 : ids0.length + o - ids0.length = o := by omega
      rw [e2, Be4 _ _ _ ho, ht2, At9 _ _ _ (Nat.le_of_lt hidx)]
    | succ j =>
     rw [List.getElem?_cons_succ] at hj
     obtain ⟨idx', h1, h2⟩ := hall j q hj
     have e : ids1.length + Aa8 (l.take j) = ids0.length + Aa8 ((r :: l).take (j + 1)) := by
      rw [hl1, List.take_succ_cons]
      simp [Aa8]
      omega
     rw [e] at h1 h2
     exact ⟨idx', h1, h2⟩
theorem Bx0 (most m : Int) (l : List S132) (gs0 gs' : List (List S123)) (ids : List Int) (h : Ae1 most (gs0, []) l = some (gs', ids)) (hd : Dist gs0) : Ae1 m (gs', []) l = some (gs', ids) := by
 obtain ⟨hd', _, ⟨t, ht, htl⟩, hall⟩ := At2 most l gs0 gs' [] ids h hd
 rw [List.nil_append] at ht
 subst ht
 have key : ∀ k, k ≤ l.length → Ae1 m (gs', []) (l.take k) = some (gs', ids.take (Aa8 (l.take k))) := by
  intro k
  induction k with
  | zero => intro _; simp [Ae1, Aa8]
  | succ k ih =>
   intro hk
   have hr : l[k]? = some l[k] := List.getElem?_eq_getElem (by omega)
   rw [Ao6 m _ l k _ hr, ih (by omega)]
   simp only [Option.bind_some]
   obtain ⟨idx, h1, h2⟩ := hall k _ hr
   simp only [List.length_nil, Nat.zero_add] at h1 h2
   unfold Ad4
   dsimp only
   cases hf : Ak9 gs' (ownG (ids.take (Aa8 (l.take k))) l[k]) with
   | none => exact absurd rfl (As9 hf _ (List.mem_of_getElem? h1))
   | some i =>
    obtain ⟨x, hx, hkx⟩ := As8 hf
    have := Ba8 _ _ hkx
    subst this
    have hi := hd' i idx _ hx h1
    subst hi
    dsimp only
    congr 2
    have htk := Ad8 l k _ hr
    have hle := Ab7 l k _ hr
    rw [htk, Ac1]
    apply List.ext_getElem?
    intro p
    rcases Nat.lt_or_ge p (Aa8 (l.take k)) with hp | hp
    ·rw [List.getElem?_append_left (by rw [List.length_take]; omega), List.getElem?_take_of_lt hp, List.getElem?_take_of_lt (by omega)]
    ·rw [List.getElem?_append_right (by rw [List.length_take]; omega)]
     have e : (ids.take (Aa8 (l.take k))).length = Aa8 (l.take k) := by rw [List.length_take]; omega
     rw [e]
     rcases Nat.lt_or_ge (p - Aa8 (l.take k)) l[k].f0.length with ho | ho
     ·rw [Be4 _ _ _ ho, List.getElem?_take_of_lt (by omega)]
      have := h2 _ ho
      have e2 : Aa8 (l.take k) + (p - Aa8 (l.take k)) = p := by omega
      rw [e2] at this
      exact this.symm
     ·rw [List.getElem?_eq_none (by rw [Ac4]; omega), List.getElem?_eq_none (by rw [List.length_take]; omega)]
 have := key l.length (Nat.le_refl _)
 rw [List.take_length] at this
 rw [this, ← htl, List.take_length]
theorem Az0 (gs : List (List S123)) (i j : Nat) (x : List S123) (h : i < j) (hx : gs[i]? = some x) : Ab8 gs i + x.length ≤ Ab8 gs j := by
 have hx' : (gs.take j)[i]? = some x := by rw [List.getElem?_take_of_lt h]; exact hx
 have h1 := (As7 (gs.take j) i x hx').2
 have e : Ab8 (gs.take j) i = Ab8 gs i := by
  unfold Ab8
  rw [List.take_take, Nat.min_eq_left (Nat.le_of_lt h)]
 rw [e] at h1
 exact h1
theorem Br1 {gs : List (List S123)} {i j : Nat} {x y : List S123} {o p : Nat} (hx : gs[i]? = some x) (hy : gs[j]? = some y) (ho : o < x.length) (hp : p < y.length) : Ab8 gs i + (o : Int) = Ab8 gs j + (p : Int) ↔ i = j ∧ o = p := by
 constructor
 ·intro h
  rcases Nat.lt_trichotomy i j with hl | rfl | hl
  ·have := Az0 gs i j x hl hx; omega
  ·exact ⟨rfl, by omega⟩
  ·have := Az0 gs j i y hl hy; omega
 ·rintro ⟨rfl, rfl⟩; rfl
theorem Ba4 (l : List S132) (k p : Nat) (hk : k ≤ l.length) (hp : p < Aa8 (l.take k)) : ∃ (j : Nat) (r : S132) (o : Nat), j < k ∧ l[j]? = some r ∧ p = Aa8 (l.take j) + o ∧ o < r.f0.length := by
 induction k with
 | zero => simp [Aa8] at hp
 | succ k ih =>
  have hr : l[k]? = some l[k] := List.getElem?_eq_getElem (by omega)
  rw [Ad8 l k _ hr] at hp
  rcases Nat.lt_or_ge p (Aa8 (l.take k)) with h | h
  ·obtain ⟨j, r, o, h1, h2, h3, h4⟩ := ih (by omega) h
   exact ⟨j, r, o, by omega, h2, h3, h4⟩
  ·exact ⟨k, l[k], p - Aa8 (l.take k), by omega, hr, by omega, by omega⟩
theorem Bd5 {α β γ : Type} {f g : α → β} {f' g' : α → γ} (l m : List α) (h : ∀ a ∈ l, ∀ b ∈ m, (f a = g b ↔ f' a = g' b)) : l.map f = m.map g ↔ l.map f' = m.map g' := by
 induction l generalizing m with
 | nil => cases m <;> simp
 | cons a l ih =>
  cases m with
  | nil => simp
  | cons b m =>
   simp only [List.map_cons, List.cons.injEq]
   rw [h a (by simp) b (by simp), ih m (fun x hx y hy => h x (by simp [hx]) y (by simp [hy]))]
structure TQ (Q : Int → Prop) (s : S123) : Prop where
 q1 : ∀ h ∈ s.f1, Q h
 q2 : ∀ v ∈ s.f2.f1, v.f0 = 5 → Q v.f2
 q3 : ∀ v ∈ s.f2.f2, v.f0 = 5 → Q v.f2
 q4 : ∀ v ∈ s.f2.f3, v.f0.f0 = 5 → Q v.f0.f2
theorem Bu8 {f g f' g' : Int → Int} {v u : S39} (h : v.f0 = 5 → u.f0 = 5 → (f v.f2 = g u.f2 ↔ f' v.f2 = g' u.f2)) : mvp f v = mvp g u ↔ mvp f' v = mvp g' u := by
 unfold mvp
 by_cases hv : v.f0 = 5 <;> by_cases hu : u.f0 = 5
 ·simp only [hv, hu, if_true, S39.mk.injEq, h hv hu, true_and]
 ·simp only [hv, hu, if_true, if_false, S39.mk.injEq, Ne.symm hu, false_and]
 ·simp only [hv, hu, if_true, if_false, S39.mk.injEq, false_and]
 ·simp only [hv, hu, if_false, S39.mk.injEq]
theorem mfp_iff {f g f' g' : Int → Int} {v u : S172} (h : v.f0.f0 = 5 → u.f0.f0 = 5 → (f v.f0.f2 = g u.f0.f2 ↔ f' v.f0.f2 = g' u.f0.f2)) : mfp f v = mfp g u ↔ mfp f' v = mfp g' u := by
 unfold mfp
 simp only [S172.mk.injEq]
 rw [Bu8 h]
theorem Ch4 {a b a' b' : List Int} {s t : S123} {P Q : Int → Prop} (hs : TQ P s) (ht : TQ Q t) (h : ∀ x y, P x → Q y → (Ac6 a x = Ac6 b y ↔ Ac6 a' x = Ac6 b' y)) : Ah6 a s = Ah6 b t ↔ Ah6 a' s = Ah6 b' t := by
 simp only [Ba5, S123.mk.injEq, S121.mk.injEq]
 rw [Bd5 (f := Ac6 a) (g := Ac6 b) (f' := Ac6 a') (g' := Ac6 b') s.f1 t.f1 (fun x hx y hy => h x y (hs.q1 x hx) (ht.q1 y hy)),
  Bd5 (f := mvp (Ac6 a)) (g := mvp (Ac6 b)) (f' := mvp (Ac6 a')) (g' := mvp (Ac6 b')) s.f2.f1 t.f2.f1 (fun x hx y hy => Bu8 fun e e' => h _ _ (hs.q2 x hx e) (ht.q2 y hy e')),
  Bd5 (f := mvp (Ac6 a)) (g := mvp (Ac6 b)) (f' := mvp (Ac6 a')) (g' := mvp (Ac6 b')) s.f2.f2 t.f2.f2 (fun x hx y hy => Bu8 fun e e' => h _ _ (hs.q3 x hx e) (ht.q3 y hy e')),
  Bd5 (f := mfp (Ac6 a)) (g := mfp (Ac6 b)) (f' := mfp (Ac6 a')) (g' := mfp (Ac6 b')) s.f2.f3 t.f2.f3 (fun x hx y hy => mfp_iff fun e e' => h _ _ (hs.q4 x hx e) (ht.q4 y hy e'))]
theorem Bl4 (en : Int) (b : Bool) (h : Int) : okF en b h = true ↔ b = true ∧ (-12 ≤ h ∧ h < en) := by
 simp [okF]
 constructor
 ·rintro ⟨⟨h1, h2⟩, h3⟩; exact ⟨h1, h3, h2⟩
 ·rintro ⟨h1, h3, h2⟩; exact ⟨⟨h1, h2⟩, h3⟩
theorem okS_ints (en : Int) (b : Bool) (l : List Int) : (Aa4 (okS en) b l).1 = true ↔ b = true ∧ ∀ h ∈ l, -12 ≤ h ∧ h < en := by
 induction l generalizing b with
 | nil => simp [Aa4]
 | cons x l ih =>
  simp only [Aa4, ih, okS, Bl4, List.mem_cons, forall_eq_or_imp, and_assoc]
theorem By5 (en : Int) (b : Bool) (l : List S39) : (Aa4 (tval (okS en)) b l).1 = true ↔ b = true ∧ ∀ v ∈ l, v.f0 = 5 → -12 ≤ v.f2 ∧ v.f2 < en := by
 induction l generalizing b with
 | nil => simp [Aa4]
 | cons x l ih =>
  have e : (tval (okS en) b x).1 = true ↔ b = true ∧ (x.f0 = 5 → -12 ≤ x.f2 ∧ x.f2 < en) := by
   unfold tval
   by_cases h : x.f0 = 5
   ·simp only [h, if_true, okS, Bl4, true_implies]
   ·simp [h]
  simp only [Aa4, ih, e, List.mem_cons, forall_eq_or_imp, and_assoc]
theorem Cc2 (en : Int) (b : Bool) (l : List S172) : (Aa4 (Ah3 (okS en)) b l).1 = true ↔ b = true ∧ ∀ v ∈ l, v.f0.f0 = 5 → -12 ≤ v.f0.f2 ∧ v.f0.f2 < en := by
 induction l generalizing b with
 | nil => simp [Aa4]
 | cons x l ih =>
  have e : (Ah3 (okS en) b x).1 = true ↔ b = true ∧ (x.f0.f0 = 5 → -12 ≤ x.f0.f2 ∧ x.f0.f2 < en) := by
   unfold Ah3 tval
   by_cases h : x.f0.f0 = 5
   ·simp only [h, if_true, okS, Bl4, true_implies]
   ·simp [h]
  simp only [Aa4, ih, e, List.mem_cons, forall_eq_or_imp, and_assoc]
theorem Aw7 (en : Int) (s : S123) : Ak6 en s = true ↔ (∀ h ∈ s.f1, 0 ≤ h) ∧ TQ (fun h => -12 ≤ h ∧ h < en) s := by
 unfold Ak6 tsub
 dsimp only
 rw [Cc2, By5, By5, okS_ints]
 have e : Az6 s.f1 = true ↔ ∀ h ∈ s.f1, 0 ≤ h := by simp [Az6]
 rw [e]
 constructor
 ·rintro ⟨⟨⟨⟨h0, h1⟩, h2⟩, h3⟩, h4⟩; exact ⟨h0, h1, h2, h3, h4⟩
 ·rintro ⟨h0, h1, h2, h3, h4⟩; exact ⟨⟨⟨⟨h0, h1⟩, h2⟩, h3⟩, h4⟩
theorem Clo.tq {l : List S132} (h : Clo l) {j : Nat} {r : S132} (hr : l[j]? = some r) {s : S123} (hs : s ∈ r.f0) : TQ (fun x => -12 ≤ x ∧ x < (Aa8 (l.take (j + 1)) : Nat)) s := ((Aw7 _ _).1 (h j r hr s hs)).2
theorem Cf5 {a b a' b' : List Int} {x y : Int} (hx : -12 ≤ x) (hy : -12 ≤ y) (ha : ∀ i ∈ a, 0 ≤ i) (hb : ∀ i ∈ b, 0 ≤ i) (ha' : ∀ i ∈ a', 0 ≤ i) (hb' : ∀ i ∈ b', 0 ≤ i) (hla : a.length = a'.length) (hlb : b.length = b'.length)
  (h : 0 ≤ x → x < a.length → 0 ≤ y → y < b.length → (rd a x = rd b y ↔ rd a' x = rd b' y)) : Ac6 a x = Ac6 b y ↔ Ac6 a' x = Ac6 b' y := by
 have pos : ∀ (c : List Int) (z : Int), (∀ i ∈ c, 0 ≤ i) → 0 ≤ z → z < c.length → 0 ≤ rd c z := by
  intro c z hc h0 h1
  have e : rd c z = c[z.toNat]'(by omega) := by simp [rd, List.getD_eq_getElem?_getD, List.getElem?_eq_getElem (show z.toNat < c.length by omega)]
  rw [e]
  exact hc _ (List.getElem_mem _)
 unfold Ac6
 rw [← hla, ← hlb]
 by_cases x0 : x < 0 <;> by_cases y0 : y < 0
 ·simp only [x0, y0, if_true]
 ·simp only [x0, y0, if_true, if_false]
  by_cases y1 : y < b.length
  ·simp only [y1, if_true]
   have := pos b y hb (by omega) y1
   have := pos b' y hb' (by omega) (by omega)
   omega
  ·simp only [y1, if_false]
 ·simp only [x0, y0, if_true, if_false]
  by_cases x1 : x < a.length
  ·simp only [x1, if_true]
   have := pos a x ha (by omega) x1
   have := pos a' x ha' (by omega) (by omega)
   omega
  ·simp only [x1, if_false]
 ·simp only [x0, y0, if_false]
  by_cases x1 : x < a.length <;> by_cases y1 : y < b.length
  ·simp only [x1, y1, if_true]
   exact h (by omega) x1 (by omega) y1
  ·simp only [x1, y1, if_true, if_false]
   have := pos a x ha (by omega) x1
   have := pos a' x ha' (by omega) (by omega)
   omega
  ·simp only [x1, y1, if_true, if_false]
   have := pos b y hb (by omega) y1
   have := pos b' y hb' (by omega) (by omega)
   omega
  ·simp only [x1, y1, if_false]
theorem Bj2 {most : Int} {l : List S132} {gs0 gs : List (List S123)} {ids : List Int} (h : Ae1 most (gs0, []) l = some (gs, ids)) (hd : Dist gs0) : ∀ i ∈ ids, 0 ≤ i := by
 obtain ⟨_, _, ⟨t, ht, htl⟩, hall⟩ := At2 most l gs0 gs [] ids h hd
 rw [List.nil_append] at ht
 subst ht
 intro i hi
 obtain ⟨p, hp, rfl⟩ := List.getElem_of_mem hi
 obtain ⟨j, r, o, _, hr, rfl, ho⟩ := Ba4 l l.length p (Nat.le_refl _) (by rw [List.take_length]; omega)
 obtain ⟨idx, h1, h2⟩ := hall j r hr
 have h3 := h2 o ho
 simp only [List.length_nil, Nat.zero_add] at h3
 rw [List.getElem?_eq_getElem hp] at h3
 injection h3 with h3
 rw [h3]
 have := (As7 gs idx _ h1).1
 omega
theorem Bk9 (l : List Int) (n : Nat) (x : Int) (h0 : 0 ≤ x) (h : x < n) : rd (l.take n) x = rd l x := by
 unfold rd
 rw [List.getD_eq_getElem?_getD, List.getD_eq_getElem?_getD, List.getElem?_take_of_lt (by omega)]
theorem Cb1 (l : List Int) (x : Int) (v : Int) (h : l[x.toNat]? = some v) : rd l x = v := by
 unfold rd
 rw [List.getD_eq_getElem?_getD, h]
 rfl
theorem Am0 (l : List S132) (i j : Nat) (h : i ≤ j) : Aa8 (l.take i) ≤ Aa8 (l.take j) := by
 have e : l.take j = l.take i ++ (l.take j).drop i := by
  have := (List.take_append_drop i (l.take j)).symm
  rw [List.take_take, Nat.min_eq_left h] at this
  exact this
 rw [e]
 simp [Aa8]
theorem Ck0 {l : List S132} (hc : Clo l) {mA mB : Int} {gA0 gA gB0 gB : List (List S123)} {iA iB : List Int} (hA : Ae1 mA (gA0, []) l = some (gA, iA)) (hB : Ae1 mB (gB0, []) l = some (gB, iB)) (dA : Dist gA0) (dB : Dist gB0) (x y : Int) (hx : 0 ≤ x ∧ x < Aa8 l) (hy : 0 ≤ y ∧ y < Aa8 l) :
  rd iA x = rd iA y ↔ rd iB x = rd iB y := by
 have nA := Bj2 hA dA
 have nB := Bj2 hB dB
 obtain ⟨dA', _, ⟨t, ht, lA⟩, allA⟩ := At2 mA l gA0 gA [] iA hA dA
 rw [List.nil_append] at ht
 subst ht
 obtain ⟨dB', _, ⟨t, ht, lB⟩, allB⟩ := At2 mB l gB0 gB [] iB hB dB
 rw [List.nil_append] at ht
 subst ht
 have key : ∀ k, k ≤ l.length → ∀ x y : Int, 0 ≤ x → x < (Aa8 (l.take k) : Nat) → 0 ≤ y → y < (Aa8 (l.take k) : Nat) → (rd iA x = rd iA y ↔ rd iB x = rd iB y) := by
  intro k
  induction k with
  | zero => intro _ x y _ h; simp [Aa8] at h; omega
  | succ k ih =>
   intro hk x y hx0 hx1 hy0 hy1
   obtain ⟨j, r, o, hj, hr, ex, ho⟩ := Ba4 l (k + 1) x.toNat hk (by omega)
   obtain ⟨j', r', o', hj', hr', ey, ho'⟩ := Ba4 l (k + 1) y.toNat hk (by omega)
   obtain ⟨a, a1, a2⟩ := allA j r hr
   obtain ⟨a', a1', a2'⟩ := allA j' r' hr'
   obtain ⟨b, b1, b2⟩ := allB j r hr
   obtain ⟨b', b1', b2'⟩ := allB j' r' hr'
   simp only [List.length_nil, Nat.zero_add] at a1 a2 a1' a2' b1 b2 b1' b2'
   rw [Cb1 iA x _ (by rw [ex]; exact a2 o ho), Cb1 iA y _ (by rw [ey]; exact a2' o' ho'), Cb1 iB x _ (by rw [ex]; exact b2 o ho), Cb1 iB y _ (by rw [ey]; exact b2' o' ho')]
   rw [Br1 a1 a1' (by rw [Ac1]; exact ho) (by rw [Ac1]; exact ho'), Br1 b1 b1' (by rw [Ac1]; exact ho) (by rw [Ac1]; exact ho')]
   have eA : a = a' ↔ ownG (iA.take (Aa8 (l.take j))) r = ownG (iA.take (Aa8 (l.take j'))) r' := by
    constructor
    ·rintro rfl; rw [a1] at a1'; injection a1'
    ·intro e; rw [← e] at a1'; exact dA' _ _ _ a1 a1'
   have eB : b = b' ↔ ownG (iB.take (Aa8 (l.take j))) r = ownG (iB.take (Aa8 (l.take j'))) r' := by
    constructor
    ·rintro rfl; rw [b1] at b1'; injection b1'
    ·intro e; rw [← e] at b1'; exact dB' _ _ _ b1 b1'
   rw [eA, eB]
   have hle := Ab7 l j r hr
   have hle' := Ab7 l j' r' hr'
   have lenA : ∀ n, n ≤ Aa8 l → (iA.take n).length = n := fun n hn => by rw [List.length_take]; omega
   have lenB : ∀ n, n ≤ Aa8 l → (iB.take n).length = n := fun n hn => by rw [List.length_take]; omega
   have hm := Am0 l j k (by omega)
   have hm' := Am0 l j' k (by omega)
   have own : ownG (iA.take (Aa8 (l.take j))) r = ownG (iA.take (Aa8 (l.take j'))) r' ↔ ownG (iB.take (Aa8 (l.take j))) r = ownG (iB.take (Aa8 (l.take j'))) r' := by
    unfold ownG
    refine Bd5 _ _ fun s hs u hu => ?_
    refine Ch4 (hc.tq hr hs) (hc.tq hr' hu) fun p q hp hq => ?_
    refine Cf5 hp.1 hq.1 (fun i hi => nA i (List.mem_of_mem_take hi)) (fun i hi => nA i (List.mem_of_mem_take hi)) (fun i hi => nB i (List.mem_of_mem_take hi)) (fun i hi => nB i (List.mem_of_mem_take hi)) (by rw [lenA _ (by omega), lenB _ (by omega)]) (by rw [lenA _ (by omega), lenB _ (by omega)]) ?_
    intro p0 p1 q0 q1
    rw [lenA _ (by omega)] at p1 q1
    rw [Bk9 _ _ _ p0 p1, Bk9 _ _ _ q0 q1, Bk9 _ _ _ p0 p1, Bk9 _ _ _ q0 q1]
    exact ih (by omega) p q p0 (by omega) q0 (by omega)
   rw [own]
 have := key l.length (Nat.le_refl _) x y hx.1 (by rw [List.take_length]; exact hx.2) hy.1 (by rw [List.take_length]; exact hy.2)
 exact this
end Go.Proofs.YtohlmkcgempdlaaGreatDoor.Cn
namespace Go.Proofs.YtohlmkcgempdlaaGreatDoor.Cn
set_option linter.unusedSimpArgs false
set_option maxRecDepth 100000
set_option linter.unusedVariables false
open Go.RowKit Go.Maps Go.Proofs.YtohlmkcgempdlaaGreatDoorW.PrintWords Go.Proofs.YtohlmkcgempdlaaGreatDoorW.PrintLast Go.Proofs.YtohlmkcgempdlaaGreatDoor.QD Go.Proofs.YtohlmkcgempdlaaGreatDoor.Opb
theorem Cm7 {x : Int} (h : (Lit.int .i64 x).wf = true) : N64 x := by
 simp only [Lit.wf, Bool.and_eq_true, decide_eq_true_eq] at h
 exact h
theorem By4 : Opb Tryz.prog 3 (Kd.int .i64) N64 (fun _ => 1) := (Opb.int Tryz.underlying3 (by kernel_rfl)).imp (fun _ h => Cm7 h) (fun _ => Nat.le_refl _)
theorem opbVT : Opb Tryz.prog 39 k39 (fun v => N64 v.f0 ∧ N64 v.f2) (fun _ => 1) :=
 (Opb.iso (Opb.struct Tryz.underlying39 (by kernel_rfl) (OpbF.cons By4 rfl rfl (OpbF.cons (Opb.bool Tryz.underlying4 (by kernel_rfl)) rfl rfl (OpbF.last By4 rfl)))) (fun x : S39 => (x.f0, x.f1, x.f2)) (fun x => ⟨x.1, x.2.1, x.2.2⟩) (fun _ => rfl)).imp (fun _ h => ⟨h.1, h.2.2⟩) (fun _ => by omega)
theorem opbFT : Opb Tryz.prog 172 k172 (fun v => N64 v.f0.f0 ∧ N64 v.f0.f2) (fun _ => 1) :=
 (Opb.iso (Opb.struct Tryz.underlying172 (by kernel_rfl) (OpbF.cons opbVT rfl rfl (OpbF.last (Opb.bool Tryz.underlying4 (by kernel_rfl)) rfl))) (fun x : S172 => (x.f0, x.f1)) (fun x => ⟨x.1, x.2⟩) (fun _ => rfl)).imp (fun _ h => h.1) (fun _ => by omega)
theorem Bk5 {α : Type} (l : List α) : (l.map fun _ => 1).sum = l.length := by
 induction l with
 | nil => rfl
 | cons x l ih => simp only [List.map_cons, List.sum_cons, ih, List.length_cons]; omega
theorem opbInts : Opb Tryz.prog 23 (Kd.slice 3 (Kd.int .i64)) (fun xs => ∀ x ∈ xs, N64 x) (fun xs => xs.length) := (Opb.slice Tryz.underlying23 (by kernel_rfl) By4).imp (fun _ h => h) (fun _ => by rw [Bk5]; omega)
theorem opbVTs : Opb Tryz.prog 27 (Kd.slice 39 k39) (fun xs => ∀ v ∈ xs, N64 v.f0 ∧ N64 v.f2) (fun xs => xs.length) := (Opb.slice Tryz.underlying27 (by kernel_rfl) opbVT).imp (fun _ h => h) (fun _ => by rw [Bk5]; omega)
theorem opbFTs : Opb Tryz.prog 119 (Kd.slice 172 k172) (fun xs => ∀ v ∈ xs, N64 v.f0.f0 ∧ N64 v.f0.f2) (fun xs => xs.length) := (Opb.slice Tryz.underlying119 (by kernel_rfl) opbFT).imp (fun _ h => h) (fun _ => by rw [Bk5]; omega)
structure CIn (c : S121) : Prop where
 k : N64 c.f0
 p : ∀ v ∈ c.f1, N64 v.f0 ∧ N64 v.f2
 r : ∀ v ∈ c.f2, N64 v.f0 ∧ N64 v.f2
 f : ∀ v ∈ c.f3, N64 v.f0.f0 ∧ N64 v.f0.f2
def wC (c : S121) : Nat := c.f1.length + c.f2.length + c.f3.length + 1
theorem opbCT : Opb Tryz.prog 121 k121 CIn wC :=
 (Opb.iso (Opb.struct Tryz.underlying121 (by kernel_rfl) (OpbF.cons By4 rfl rfl (OpbF.cons opbVTs rfl rfl (OpbF.cons opbVTs rfl rfl (OpbF.last opbFTs rfl))))) (fun x : S121 => (x.f0, x.f1, x.f2, x.f3)) (fun x => ⟨x.1, x.2.1, x.2.2.1, x.2.2.2⟩) (fun _ => rfl)).imp (fun _ h => ⟨h.1, h.2.1, h.2.2.1, h.2.2.2⟩) (fun _ => by unfold wC; dsimp only; omega)
structure SIn (s : S123) : Prop where
 u : ∀ x ∈ s.f1, N64 x
 c : CIn s.f2
theorem opbST : Opb Tryz.prog 123 k123 SIn wS :=
 (Opb.iso (Opb.struct Tryz.underlying123 (by kernel_rfl) (OpbF.cons (Opb.bool Tryz.underlying4 (by kernel_rfl)) rfl rfl (OpbF.cons opbInts rfl rfl (OpbF.last opbCT rfl)))) (fun x : S123 => (x.f0, x.f1, x.f2)) (fun x => ⟨x.1, x.2.1, x.2.2⟩) (fun _ => rfl)).imp (fun _ h => ⟨h.2.1, h.2.2⟩) (fun _ => by unfold wS wC; dsimp only; omega)
theorem opbSTs : Opb Tryz.prog 130 (Kd.slice 123 k123) (fun xs => ∀ s ∈ xs, SIn s) (fun xs => wG xs) := (Opb.slice Tryz.underlying130 (by kernel_rfl) opbST).imp (fun _ h => h) (fun _ => by unfold wG; omega)
def GIn (r : S132) : Prop := ∀ s ∈ r.f0, SIn s
theorem opbRT : Opb Tryz.prog 132 k132 GIn (fun r => wG r.f0 + 1) :=
 (Opb.iso (Opb.struct Tryz.underlying132 (by kernel_rfl) (OpbF.cons opbSTs rfl rfl (OpbF.last (Opb.bool Tryz.underlying4 (by kernel_rfl)) rfl))) (fun x : S132 => (x.f0, x.f1)) (fun x => ⟨x.1, x.2⟩) (fun _ => rfl)).imp (fun _ h => h.1) (fun _ => by dsimp only; omega)
def LIn (l : List S132) : Prop := ∀ r ∈ l, GIn r
def wLL (l : List S132) : Nat := (l.map fun r => wG r.f0 + 1).sum
theorem opbRTs : Opb Tryz.prog 22 (Kd.slice 132 k132) LIn wLL := (Opb.slice Tryz.underlying22 (by kernel_rfl) opbRT).imp (fun _ h => h) (fun _ => by unfold wLL; omega)
theorem wLL_eq (l : List S132) : wLL l = wL l + l.length := by
 unfold wLL wL
 induction l with
 | nil => rfl
 | cons x l ih => simp only [List.map_cons, List.sum_cons, List.length_cons, ih]; omega
theorem Ba0 {l : List S132} {r : S132} (h : r ∈ l) : wG r.f0 ≤ wL l := Aw8 (fun r => wG r.f0) l r h
theorem Av0 {l : List S123} {s : S123} (h : s ∈ l) : wS s ≤ wG l := Aw8 wS l s h
theorem sok_of_w {s : S123} (h : wS s ≤ 1048576) : SOk (fun _ => True) s := by
 unfold wS at h
 exact ⟨fun _ _ => trivial, fun _ _ _ => trivial, fun _ _ _ => trivial, fun _ _ _ => trivial, by omega, by omega, by omega, by omega⟩
theorem Bc0 {l : List S132} (h : wL l ≤ 1048576) : ∀ r ∈ l, ∀ s ∈ r.f0, SOk (fun _ => True) s := fun r hr s hs => sok_of_w (Nat.le_trans (Av0 hs) (Nat.le_trans (Ba0 hr) h))
theorem Bc4 {l : List S132} (h : wL l ≤ 1048576) (hi : LIn l) (hc : Clo l) : ∀ r ∈ l, ∀ s ∈ r.f0, RIn s := by
 intro r hr s hs
 obtain ⟨j, hj, rfl⟩ := List.getElem_of_mem hr
 have t := hc.tq (List.getElem?_eq_getElem hj) hs
 have hb : Aa8 (l.take (j + 1)) ≤ 1048576 := by
  have h1 := Am0 l (j + 1) l.length (by omega)
  rw [List.take_length] at h1
  have h2 := Ab4 l
  omega
 have k := hi _ hr s hs
 have q : ∀ x : Int, (-12 ≤ x ∧ x < (Aa8 (l.take (j + 1)) : Nat)) → Bh5 x := fun x hx => ⟨by omega, by omega⟩
 have o := Bc0 h _ hr s hs
 refine ⟨⟨fun x hx => q x (t.q1 x hx), fun v hv e => q _ (t.q2 v hv e), fun v hv e => q _ (t.q3 v hv e), fun v hv e => q _ (t.q4 v hv e), o.l1, o.l2, o.l3, o.l4⟩, k.c.k, fun v hv => (k.c.p v hv).1, fun v hv => (k.c.r v hv).1, fun v hv => (k.c.f v hv).1⟩
structure LA (w : World) (A : Option Addr) (c : Nat) (l : List S132) : Prop where
 C : Kd.C k132 w A l.length l
 cap : l.length ≤ c
 inn : LIn l
 w : wL l + l.length ≤ 1048576
theorem LA.below {w w' : World} {A : Option Addr} {c : Nat} {l : List S132} (h : LA w A c l) (hb : Below w.heap.size w w') : LA w' A c l := ⟨Kd.Ab1 h.C hb, h.cap, h.inn, h.w⟩
end Go.Proofs.YtohlmkcgempdlaaGreatDoor.Cn
namespace Go.Proofs.YtohlmkcgempdlaaGreatDoor.QD
open Go.RowKit Go.Proofs.YtohlmkcgempdlaaGreatDoorW.PrintWords Go.Proofs.YtohlmkcgempdlaaGreatDoorW.PrintLast Go.Proofs.YtohlmkcgempdlaaGreatDoorW.PrintMore
attribute [local go_sem] An1 Am9 Ar1 Ar0 Ak8 Ak7 An0 Am8 
set_option linter.unusedVariables false
set_option linter.unusedSimpArgs false
set_option maxRecDepth 100000
theorem eqA39 (d : Nat) (w : World) (x0 y0 : Int) (x1 y1 : Bool) (x2 y2 : Int) :
  (Op.equalIn (d + 2) 39 (.agg #[.int .i64 x0, .bool x1, .int .i64 x2]) (.agg #[.int .i64 y0, .bool y1, .int .i64 y2])).run Tryz.prog w = .ok (x0 == y0 && (x1 == y1 && (x2 == y2))) w := by
 refine eqA_of Tryz.underlying39 (by kernel_rfl) ?_
 refine Bm5 (by rfl) (by go_simp; rfl) (by go_simp; rfl) (by go_simp) ?_
 refine Bm5 (by rfl) (by go_simp; rfl) (by go_simp; rfl) (by go_simp) ?_
 exact Bz0 (by rfl) (by go_simp; rfl) (by go_simp; rfl) (by go_simp)
end Go.Proofs.YtohlmkcgempdlaaGreatDoor.QD
namespace Go.Proofs.YtohlmkcgempdlaaGreatDoor.QD
open Go.RowKit Go.Proofs.YtohlmkcgempdlaaGreatDoorW.PrintWords Go.Proofs.YtohlmkcgempdlaaGreatDoorW.PrintLast Go.Proofs.YtohlmkcgempdlaaGreatDoorW.PrintMore
attribute [local go_sem] An1 Am9 Ar1 Ar0 Ak8 Ak7 An0 Am8 
set_option linter.unusedVariables false
set_option linter.unusedSimpArgs false
set_option maxRecDepth 100000
theorem eqA172 (d : Nat) (w : World) (x0 y0 : Int) (x1 y1 : Bool) (x2 y2 : Int) (x3 y3 : Bool) :
  (Op.equalIn (d + 3) 172 (.agg #[.int .i64 x0, .bool x1, .int .i64 x2, .bool x3]) (.agg #[.int .i64 y0, .bool y1, .int .i64 y2, .bool y3])).run Tryz.prog w = .ok ((x0 == y0 && (x1 == y1 && (x2 == y2))) && (x3 == y3)) w := by
 refine eqA_of Tryz.underlying172 (by kernel_rfl) ?_
 refine Bm5 (by rfl) (by go_simp) (by go_simp) (eqA39 (d + 0) w _ _ _ _ _ _) ?_
 exact Bz0 (by rfl) (by go_simp; rfl) (by go_simp; rfl) (by go_simp)
end Go.Proofs.YtohlmkcgempdlaaGreatDoor.QD
namespace Go.Proofs.YtohlmkcgempdlaaGreatDoor.Cn
set_option linter.unusedSimpArgs false
set_option maxRecDepth 100000
set_option linter.unusedVariables false
open Go.RowKit Go.Maps Go.Proofs.YtohlmkcgempdlaaGreatDoorW.PrintWords Go.Proofs.YtohlmkcgempdlaaGreatDoorW.PrintLast Go.Proofs.YtohlmkcgempdlaaGreatDoorW.PrintMore Go.Proofs.YtohlmkcgempdlaaGreatDoor.QD
theorem Cf7 (l : List S39) (j : Nat) (h : j < l.length) : Ac7 l (j : Int) = l[j] := by simp [Ac7, List.getD_eq_getElem?_getD, List.getElem?_eq_getElem h]
theorem rdFT_at (l : List S172) (j : Nat) (h : j < l.length) : Am1 l (j : Int) = l[j] := by simp [Am1, List.getD_eq_getElem?_getD, List.getElem?_eq_getElem h]
theorem rdST_at (l : List S123) (j : Nat) (h : j < l.length) : Ac2 l (j : Int) = l[j] := by simp [Ac2, List.getD_eq_getElem?_getD, List.getElem?_eq_getElem h]
theorem Cf8 (l : List S132) (j : Nat) (h : j < l.length) : Ad5 l (j : Int) = l[j] := by simp [Ad5, List.getD_eq_getElem?_getD, List.getElem?_eq_getElem h]
theorem rdI_at (l : List Int) (j : Nat) (h : j < l.length) : rd l (j : Int) = l[j] := by simp [rd, List.getD_eq_getElem?_getD, List.getElem?_eq_getElem h]
theorem wrapS (j : Nat) (h : j ≤ 1099511627776) : wrap64 ((j : Int) + 1) = ((j + 1 : Nat) : Int) := by unfold wrap64; omega
theorem ltI {j n : Nat} (h : j < n) : (j : Int) < (n : Int) := by omega
theorem nltI {j n : Nat} (h : j = n) : ¬ (j : Int) < (n : Int) := by omega
theorem geI (j : Nat) : (0 : Int) ≤ (j : Int) := Int.natCast_nonneg j
theorem vt_ne (a b : S39) : ((!(a.f0 == b.f0) || (!(a.f1 == b.f1) || !(a.f2 == b.f2))) = true) = (a ≠ b) := by
 obtain ⟨a0, a1, a2⟩ := a
 obtain ⟨b0, b1, b2⟩ := b
 simp only [ne_eq, S39.mk.injEq, Bool.or_eq_true, Bool.not_eq_true', beq_eq_false_iff_ne, eq_iff_iff]
 constructor
 ·rintro (h | h | h) ⟨h0, h1, h2⟩ <;> contradiction
 ·intro h
  by_cases p : a0 = b0
  ·by_cases q : a1 = b1
   ·exact .inr (.inr (fun e => h ⟨p, q, e⟩))
   ·exact .inr (.inl q)
  ·exact .inl p
theorem ft_ne (a b : S172) : (((!(a.f0.f0 == b.f0.f0) || (!(a.f0.f1 == b.f0.f1) || !(a.f0.f2 == b.f0.f2))) || !(a.f1 == b.f1)) = true) = (a ≠ b) := by
 rw [Bool.or_eq_true, vt_ne]
 obtain ⟨a0, a1⟩ := a
 obtain ⟨b0, b1⟩ := b
 simp only [ne_eq, S172.mk.injEq, Bool.not_eq_true', beq_eq_false_iff_ne, eq_iff_iff]
 constructor
 ·rintro (h | h) ⟨h0, h1⟩ <;> contradiction
 ·intro h
  by_cases p : a0 = b0
  ·exact .inr (fun e => h ⟨p, e⟩)
  ·exact .inl p
end Go.Proofs.YtohlmkcgempdlaaGreatDoor.Cn
namespace Go.Proofs.YtohlmkcgempdlaaGreatDoor.QD
open Go.RowKit Go.Proofs.YtohlmkcgempdlaaGreatDoorW.PrintWords Go.Proofs.YtohlmkcgempdlaaGreatDoorW.PrintLast Go.Proofs.YtohlmkcgempdlaaGreatDoorW.PrintMore
attribute [local go_sem] An1 Am9 Ar1 Ar0 Ak8 Ak7 An0 Am8 
set_option linter.unusedVariables false
set_option linter.unusedSimpArgs false
set_option maxRecDepth 100000
def ratchetref05_Count.l0 : Nat → List (S132) → Int → Int → Option (Int)
 | 0, _, _, _ => none
 | k + 1, x0, x3, x4 => if x4 < (x0.length : Int) then (if 0 ≤ x4 then (ratchetref05_Count.l0 k x0 (wrap64 (x3 + (((Ad5 x0 x4).f0).length : Int))) (wrap64 (x4 + 1))) else (none)) else (some x3)
def ratchetref05_Count.f (k : Nat) (l0 : List (S132)) : Option (Int) := ratchetref05_Count.l0 k l0 0 0
set_option maxHeartbeats 8000000 in
theorem ratchetref05_Count.calls (k : Nat) (A0 : Option Addr) (c0 : Nat) (l0 : List (S132)) (r : Int) (w : World) (hr0 : Kd.C k132 w A0 l0.length l0) (hc0 : l0.length ≤ c0) (h : ratchetref05_Count.f k l0 = some r) :
  Calls Tryz.prog 81 #[.slice A0 l0.length c0] w fun e w' => e = .returned (.int .i64 r) ∧ Ab6 w w' := by
 have HR0 := zA hr0
 have HC0 := zA hc0
 clear hr0 hc0
 have H : (ratchetref05_Count.l0 k l0 0 0) = some r := h
 clear h
 have H' := zA H
 clear H
 go_enter Tryz.func81, Tryz.ntmps81
 go_wp2
 go_loopg [3, 4] k (fun kq v3 v4 w' => ∃ (x3_1 : Int) (x4_1 : Int), v3 = .int .i64 x3_1 ∧ v4 = .int .i64 x4_1 ∧ Aa2 (ratchetref05_Count.l0 kq l0 x3_1 x4_1 = some r) ∧ Aa2 (kq ≤ k) ∧ Ab6 w w')
 case atStart => exact ⟨(0), (0), (by first | rfl | (simp; done) | (simp [*]; done)), (by first | rfl | (simp; done) | (simp [*]; done)), H', ⟨Nat.le_refl _⟩, by repeat (first | exact Ab6.refl _ | apply Ab6.step)⟩
 case round =>
  clear H'
  obtain ⟨x3_1, x4_1, rfl, rfl, HA, HK1, ⟨m1, rfl⟩⟩ := hrel
  cases gk with
  | zero => exact absurd HA.out (by simp [ratchetref05_Count.l0])
  | succ k1 =>
   have H := HA.out
   clear HA
   simp only [ratchetref05_Count.l0] at H
   by_cases c2 : x4_1 < (l0.length : Int)
   ·rw [if_pos c2] at H
    have c2b0 : decide (x4_1 < (l0.length : Int)) = true := decide_eq_true c2
    clear c2
    by_cases c3 : 0 ≤ x4_1
    ·rw [if_pos c3] at H
     have c3b0 : decide (0 ≤ x4_1) = true := decide_eq_true c3
     clear c3
     have H' := zA H
     clear H
     have p235 : 0 ≤ (x4_1 : Int) := of_decide_eq_true (by first | (with_reducible assumption) | assumption)
     have q235 : x4_1 < (l0.length : Int) := of_decide_eq_true (by first | (with_reducible assumption) | assumption)
     obtain ⟨ad235, A235_0, c235_0, e235, hx235_0, hx235_1, hl235_0, hi235_0⟩ := Aq1 HR0.out x4_1 p235 q235
     cases e235
     have HR235_0 := zA hi235_0
     have HC235_0 := zA hl235_0
     clear hi235_0 hl235_0
     replace p235 := eq_true p235
     replace q235 := eq_true q235
     go_wp2
     go_roundg k1
     case measure => have := HK1.out; omega
     case rel => exact ⟨(wrap64 (x3_1 + (((Ad5 l0 x4_1).f0).length : Int))), (wrap64 (x4_1 + 1)), (by first | rfl | (simp; done) | (simp [*]; done)), (by first | rfl | (simp; done) | (simp [*]; done)), H', ⟨by have := HK1.out; omega⟩, by repeat (first | exact Ab6.refl _ | apply Ab6.step)⟩
    ·rw [if_neg c3] at H
     exact absurd H (by simp)
   ·rw [if_neg c2] at H
    have c2b0 : decide (x4_1 < (l0.length : Int)) = false := decide_eq_false c2
    clear c2
    obtain rfl := Option.some.inj H
    go_wp2
    go_ret
    exact ⟨by first | rfl | (simp; done) | (simp [*]; done), by repeat (first | exact Ab6.refl _ | apply Ab6.step)⟩
end Go.Proofs.YtohlmkcgempdlaaGreatDoor.QD
namespace Go.Proofs.YtohlmkcgempdlaaGreatDoor.Cn
set_option linter.unusedSimpArgs false
set_option maxRecDepth 100000
set_option linter.unusedVariables false
open Go.RowKit Go.Maps Go.Proofs.YtohlmkcgempdlaaGreatDoorW.PrintWords Go.Proofs.YtohlmkcgempdlaaGreatDoorW.PrintLast Go.Proofs.YtohlmkcgempdlaaGreatDoorW.PrintMore Go.Proofs.YtohlmkcgempdlaaGreatDoor.QD
theorem Cb4 (l : List S132) (hn : l.length ≤ 1048576) (ht : Aa8 l ≤ 1048576) : ∀ (m j K : Nat), j + m = l.length → m + 1 ≤ K → ratchetref05_Count.l0 K l (Aa8 (l.take j) : Nat) (j : Int) = some ((Aa8 l : Nat) : Int) := by
 intro m
 induction m with
 | zero =>
  intro j K hj hK
  obtain ⟨K, rfl⟩ : ∃ k, K = k + 1 := ⟨K - 1, by omega⟩
  have hjl : j = l.length := by omega
  rw [ratchetref05_Count.l0, if_neg (nltI hjl), hjl, List.take_length]
 | succ m ih =>
  intro j K hj hK
  obtain ⟨K, rfl⟩ : ∃ k, K = k + 1 := ⟨K - 1, by omega⟩
  have hlt : j < l.length := by omega
  have hr := List.getElem?_eq_getElem hlt
  have h1 := Ad8 l j _ hr
  have h2 := Ab7 l j _ hr
  have e : wrap64 ((Aa8 (l.take j) : Nat) + (l[j].f0.length : Int)) = (Aa8 (l.take (j + 1)) : Nat) := by rw [h1]; unfold wrap64; omega
  rw [ratchetref05_Count.l0, if_pos (ltI hlt), if_pos (geI j), Cf8 l j hlt, e, wrapS j (by omega), ih (j + 1) K (by omega) (by omega)]
theorem r5count (l : List S132) (hn : l.length ≤ 1048576) (ht : Aa8 l ≤ 1048576) (K : Nat) (hK : l.length + 1 ≤ K) : ratchetref05_Count.f K l = some ((Aa8 l : Nat) : Int) := by
 have := Cb4 l hn ht l.length 0 K (by omega) hK
 unfold ratchetref05_Count.f
 simpa [Aa8] using this
def Ad3 (l : List S39) : List Int := (l.filter fun v => decide (v.f0 = 5)).map fun v => v.f2
theorem Br2 (v : S39) (l : List S39) : Ad3 (v :: l) = if v.f0 = 5 then v.f2 :: Ad3 l else Ad3 l := by
 unfold Ad3
 by_cases h : v.f0 = 5
 ·rw [List.filter_cons_of_pos (by simp [h]), if_pos h]; rfl
 ·rw [List.filter_cons_of_neg (by simp [h]), if_neg h]
theorem Ah0 (l : List S39) : (Ad3 l).length ≤ l.length := by unfold Ad3; rw [List.length_map]; exact List.length_filter_le _ _
theorem Bv0 (l : List S39) (h : Int) : h ∈ Ad3 l ↔ ∃ v ∈ l, v.f0 = 5 ∧ v.f2 = h := by
 unfold Ad3
 simp only [List.mem_map, List.mem_filter, decide_eq_true_eq]
 constructor
 ·rintro ⟨v, ⟨h1, h2⟩, h3⟩; exact ⟨v, h1, h2, h3⟩
 ·rintro ⟨v, h1, h2, h3⟩; exact ⟨v, ⟨h1, h2⟩, h3⟩
def Br8 (s : S123) : List Int := s.f1 ++ Ad3 s.f2.f1 ++ Ad3 s.f2.f2 ++ Ad3 (s.f2.f3.map fun f => f.f0)
theorem Cl5 (s : S123) : (Br8 s).length ≤ wS s := by
 unfold Br8 wS
 have h1 := Ah0 s.f2.f1
 have h2 := Ah0 s.f2.f2
 have h3 := Ah0 (s.f2.f3.map fun f => f.f0)
 simp only [List.length_append, List.length_map] at *
 omega
theorem Cl6 (en : Int) (s : S123) : (∀ h ∈ Br8 s, -12 ≤ h ∧ h < en) ↔ TQ (fun h => -12 ≤ h ∧ h < en) s := by
 unfold Br8
 simp only [List.mem_append, Bv0, List.mem_map]
 constructor
 ·intro h
  refine ⟨fun x hx => h x (.inl (.inl (.inl hx))), fun v hv e => h _ (.inl (.inl (.inr ⟨v, hv, e, rfl⟩))), fun v hv e => h _ (.inl (.inr ⟨v, hv, e, rfl⟩)), fun v hv e => h _ (.inr ⟨v.f0, ⟨v, hv, rfl⟩, e, rfl⟩)⟩
 ·rintro ⟨h1, h2, h3, h4⟩ x (((hx | ⟨v, hv, e, rfl⟩) | ⟨v, hv, e, rfl⟩) | ⟨_, ⟨v, hv, rfl⟩, e, rfl⟩)
  ·exact h1 x hx
  ·exact h2 v hv e
  ·exact h3 v hv e
  ·exact h4 v hv e
structure BadAt (l : List S132) (n : Nat) : Prop where
 at_ : ∃ (j i : Nat) (r : S132) (s : S123), l[j]? = some r ∧ r.f0[i]? = some s ∧ n = Aa8 (l.take j) + i ∧ Ak6 (Aa8 (l.take (j + 1)) : Nat) s = false ∧
  (∀ (j' : Nat) (r' : S132), j' < j → l[j']? = some r' → ∀ s' ∈ r'.f0, Ak6 (Aa8 (l.take (j' + 1)) : Nat) s' = true) ∧ ∀ (i' : Nat) (s' : S123), i' < i → r.f0[i']? = some s' → Ak6 (Aa8 (l.take (j + 1)) : Nat) s' = true
theorem BadAt.not {l : List S132} {n : Nat} (h : BadAt l n) : ¬ Clo l := by
 obtain ⟨j, i, r, s, hr, hs, _, hb, _⟩ := h.at_
 intro hc
 rw [hc j r hr s (List.mem_of_getElem? hs)] at hb
 cases hb
def Bs2 (l : List S132) (n e : Int) : Prop := (Clo l ∧ n = 0 ∧ e = 0) ∨ ∃ m : Nat, BadAt l m ∧ n = m ∧ e = 50
theorem infoRol : (Tryz.prog.info? 271).map (fun i => (i.zero, i.size, i.bytes)) = some (some (.agg #[.slice none 0 0, .int .i64 0]), 2, 32) := by kernel_rfl
def Ai0 (n : Int) (gs : List (List S123)) : List S271 := (Ad6 n gs).map fun p => ⟨p.2, p.1⟩
theorem Ai9 (n : Int) (gs : List (List S123)) : (Ai0 n gs).length = gs.length := by unfold Ai0; rw [List.length_map, Ag2]
theorem Bk7 (n : Int) (gs : List (List S123)) (g : List S123) : Ai0 n (gs ++ [g]) = Ai0 n gs ++ [⟨g, n + Ab2 gs⟩] := by unfold Ai0; rw [Aw3, List.map_append]; rfl
theorem Bn7 (n : Int) (gs : List (List S123)) (i : Nat) (g : List S123) (h : gs[i]? = some g) : (Ai0 n gs)[i]? = some ⟨g, n + Ab8 gs i⟩ := by unfold Ai0; rw [List.getElem?_map, Ar7 n gs i g h]; rfl
structure R6 (B g : Nat) (ok : Nat → Prop) (gs : List (List S123)) (v : Value) (W : World) : Prop where
 box : W.heap[g]? = some (.cells #[v, .int .i64 (Ab2 gs)] 263 (0, 0))
 row : Kd.R k271 271 W B ok v (Ai0 0 gs)
 hg : B ≤ g
section
variable {B g : Nat} {ok : Nat → Prop} {gs : List (List S123)} {v : Value} {W W' : World}
theorem R6.below (h : R6 B g ok gs v W) (hb : Below W.heap.size W W') : R6 B g ok gs v W' := ⟨Aa3 h.box hb, Kd.Ac5 h.row hb, h.hg⟩
theorem R6.grown (h : R6 B g ok gs v W) {α : Type} {d : Kd α} {e B' : Nat} {ok' : Nat → Prop} {u : Value} {l : List α} (hr : Kd.R d e W B' ok' u l) (he : e ≠ 263) (hg : W.grownBy W' u.ownBlock) (hok : ∀ k, ok k → some k ≠ u.ownBlock) : R6 B g ok gs v W' :=
 ⟨Ab5 h.box hg (Kd.R_ne hr h.box he), Kd.Au8 h.row hg hok, h.hg⟩
theorem R6.weak (h : R6 B g ok gs v W) {ok' : Nat → Prop} (hk : ∀ k, ok k → ok' k) : R6 B g ok' gs v W := ⟨h.box, Kd.Af7 h.row hk, h.hg⟩
end
structure FrR (B g : Nat) (w0 W : World) : Prop where
 bel : Below B w0 W
 oth : ∀ (k : Nat) (o : Obj), w0.heap[k]? = some o → k ≠ g → (∀ c fz, o ≠ .cells c 271 fz) → W.heap[k]? = some o
 z : B ≤ w0.heap.size
section
variable {B g : Nat} {w0 W W' : World}
theorem FrR.refl (h : B ≤ w0.heap.size) : FrR B g w0 w0 := ⟨Below.refl _ _, fun _ _ h _ _ => h, h⟩
theorem FrR.zz (h : FrR B g w0 W) : B ≤ W.heap.size := Nat.le_trans h.z h.bel.size
theorem FrR.trans (h : FrR B g w0 W) (k : FrR B g W W') : FrR B g w0 W' := ⟨h.bel.trans k.bel, fun i o hi h1 h2 => k.oth i o (h.oth i o hi h1 h2) h1 h2, h.z⟩
theorem FrR.below (h : FrR B g w0 W) (hb : Below W.heap.size W W') : FrR B g w0 W' :=
 ⟨h.bel.trans (hb.mono h.zz), fun k o hk h1 h2 => by
  have e := h.oth k o hk h1 h2
  exact (hb.block k (Array.getElem?_eq_some_iff.1 e).1).trans e, h.z⟩
theorem FrR.own (h : FrR B g w0 W) {α : Type} {d : Kd α} {e : Nat} {ok : Nat → Prop} {u : Value} {l : List α} (hr : Kd.R d e W w0.heap.size ok u l) (hg : W.grownBy W' u.ownBlock) : FrR B g w0 W' := by
 have hn : ∀ k, k < w0.heap.size → some k ≠ u.ownBlock := fun k hk e0 => by have := Ag5 hr k e0.symm; omega
 refine ⟨⟨hg.os.trans h.bel.os, hg.tape.trans h.bel.tape, hg.output.trans h.bel.output, Nat.le_trans h.bel.size hg.size, fun k hk => (hg.block k (by have := h.bel.size; have := h.z; omega) (hn k (by have := h.z; omega))).trans (h.bel.block k hk)⟩, fun k o hk h1 h2 => ?_, h.z⟩
 have e := h.oth k o hk h1 h2
 exact (hg.block k (Array.getElem?_eq_some_iff.1 e).1 (hn k (Array.getElem?_eq_some_iff.1 hk).1)).trans e
theorem FrR.fams (h : FrR B g w0 W) {ok : Nat → Prop} {u : Value} {l : List S271} (hr : Kd.R k271 271 W B ok u l) (hg : W.grownBy W' u.ownBlock) : FrR B g w0 W' := by
 have hn : ∀ k, k < B → some k ≠ u.ownBlock := fun k hk e0 => by have := Ag5 hr k e0.symm; omega
 refine ⟨⟨hg.os.trans h.bel.os, hg.tape.trans h.bel.tape, hg.output.trans h.bel.output, Nat.le_trans h.bel.size hg.size, fun k hk => (hg.block k (by have := h.bel.size; have := h.z; omega) (hn k hk)).trans (h.bel.block k hk)⟩, fun k o hk h1 h2 => ?_, h.z⟩
 have e := h.oth k o hk h1 h2
 refine (hg.block k (Array.getElem?_eq_some_iff.1 e).1 (fun e0 => ?_)).trans e
 obtain ⟨_, inner, ho, _⟩ := hr
 obtain ⟨cells, hc⟩ := Aj2 ho k e0.symm
 rw [e] at hc
 injection hc with hc
 exact h2 _ _ hc
theorem FrR.store (h : FrR B g w0 W) (hg : B ≤ g) (i : Nat) (u : Value) : FrR B g w0 (W.setCell ⟨g, i, none⟩ u) :=
 ⟨h.bel.trans ((Below.refl _ _).setCell hg u), fun k o hk h1 h2 => (Below.heap_setCell W ⟨g, i, none⟩ u k h1).trans (h.oth k o hk h1 h2), h.z⟩
theorem FrR.row (hf : FrR B g w0 W) {v : Value} {l : List Int} {B0 : Nat} {ok : Nat → Prop} (hr : Kd.R (Kd.int .i64) 3 w0 B0 ok v l) (hg : ∃ cs t, w0.heap[g]? = some (.cells cs t (0, 0)) ∧ t ≠ 3) : Kd.R (Kd.int .i64) 3 W B0 (fun _ => True) v l := by
 refine Kd.Af7 (Kd.Aw5 (Kd.Af6 hr) (w1 := W) (fun k hk hlt => ?_)) (fun _ _ => trivial)
 obtain ⟨_, _, _, q, hq, cells, hc⟩ := hk
 have hq3 : q = 3 := List.mem_singleton.1 hq
 subst hq3
 rw [hc]
 refine hf.oth k _ hc ?_ ?_
 ·rintro rfl
  obtain ⟨cs, t, h1, h2⟩ := hg
  rw [h1] at hc
  injection hc with hc
  injection hc with _ hc _
  exact h2 hc
 ·intro c_ fz_ e
  injection e with _ e _
  exact absurd e (by decide)
end
def oneF (gs : List (List S123)) (o : List S123) : Int := match Ak9 gs o with | some i => Ab8 gs i | none => Ab2 gs
def oneG (gs : List (List S123)) (o : List S123) : List (List S123) := match Ak9 gs o with | some _ => gs | none => gs ++ [o]
theorem Bp1 {gs : List (List S123)} {o : List S123} {i : Nat} (h : Ak9 gs o = some i) : oneF gs o = Ab8 gs i := by unfold oneF; rw [h]
theorem Bp2 {gs : List (List S123)} {o : List S123} (h : Ak9 gs o = none) : oneF gs o = Ab2 gs := by unfold oneF; rw [h]
theorem Bo9 {gs : List (List S123)} {o : List S123} {i : Nat} (h : Ak9 gs o = some i) : oneG gs o = gs := by unfold oneG; rw [h]
theorem Bp0 {gs : List (List S123)} {o : List S123} (h : Ak9 gs o = none) : oneG gs o = gs ++ [o] := by unfold oneG; rw [h]
def OkN (ok : Nat → Prop) (n : Nat) (k : Nat) : Prop := ok k ∨ n ≤ k
structure RO (B g : Nat) (ok : Nat → Prop) (gs : List (List S123)) (v : Value) (w : World) (bx : Obj) (vo : Value) (o : List S123) (W : World) : Prop where
 t : R6 B g (fun k => OkN ok w.heap.size k ∧ some k ≠ vo.ownBlock) gs v W
 ov : Kd.R k123 123 W w.heap.size (fun _ => True) vo o
 fr : FrR B g w W
 bx : W.heap[w.heap.size]? = some bx
section
variable {B g : Nat} {ok : Nat → Prop} {gs : List (List S123)} {v vo vo' : Value} {w W W' : World} {o o' : List S123} {cs : Array Value}
theorem RO.start (hT : R6 B g ok gs v w) (hB : B ≤ w.heap.size) (cs : Array Value) : RO B g ok gs v w (.cells cs 132 (0, 0)) (.slice none 0 0) [] (w.alloc (.cells cs 132)) :=
 have hb := (Below.refl w.heap.size w).alloc (Nat.le_refl _) (.cells cs 132)
 ⟨(hT.below hb).weak (fun k hk => ⟨.inl hk, by simp [Value.ownBlock]⟩), Kd.Aj9 _ _ _ _ _, (FrR.refl hB).below hb, Aa6 w _⟩
theorem RO.below (h : RO B g ok gs v w (.cells cs 132 (0, 0)) vo o W) (hb : Below W.heap.size W W') : RO B g ok gs v w (.cells cs 132 (0, 0)) vo o W' :=
 ⟨h.t.below hb, Kd.Ac5 h.ov hb, h.fr.below hb, Aa3 h.bx hb⟩
theorem RO.app (h : RO B g ok gs v w (.cells cs 132 (0, 0)) vo o W) (hr : Kd.R k123 123 W' w.heap.size (fun _ => True) vo' o') (hg : W.grownBy W' vo.ownBlock) (hat : vo'.ownBlock = vo.ownBlock ∨ ∃ b, vo'.ownBlock = some b ∧ W.heap.size ≤ b) : RO B g ok gs v w (.cells cs 132 (0, 0)) vo' o' W' := by
 have t1 := h.t.grown h.ov (by decide) hg (fun k hk => hk.2)
 refine ⟨⟨t1.box, Kd.Af7 (Kd.Ay0 (ok := OkN ok w.heap.size) h.t.row hg hat) (fun k hk => hk), t1.hg⟩, hr, h.fr.own h.ov hg, Ab5 h.bx hg (Kd.R_ne h.ov h.bx (by decide))⟩
end
theorem Bw6 {gs : List (List S123)} {o : List S123} {i : Nat} (hi : gs[i]? = some o) (hn : ∀ (j : Nat) (x : List S123), j < i → gs[j]? = some x → x ≠ o) : Ak9 gs o = some i := by
 unfold Ak9
 rw [List.findIdx?_eq_some_iff_getElem]
 obtain ⟨h1, h2⟩ := List.getElem?_eq_some_iff.1 hi
 refine ⟨h1, by rw [h2]; simp, fun j hj => ?_⟩
 have := hn j gs[j] hj (List.getElem?_eq_getElem (by omega))
 simp only [beq_iff_eq, Bool.not_eq_true]
 exact fun e => this (Ba8 _ _ e)
theorem findK_no {gs : List (List S123)} {o : List S123} (hn : ∀ (j : Nat) (x : List S123), j < gs.length → gs[j]? = some x → x ≠ o) : Ak9 gs o = none := by
 unfold Ak9
 rw [List.findIdx?_eq_none_iff]
 intro x hx
 obtain ⟨j, hj, rfl⟩ := List.getElem_of_mem hx
 have := hn j _ hj (List.getElem?_eq_getElem hj)
 simp only [beq_eq_false_iff_ne]
 exact fun e => this (Ba8 _ _ e)
theorem rdRol_at (l : List S271) (j : Nat) (x : S271) (h : l[j]? = some x) : Au3 l (j : Int) = x := by
 obtain ⟨hj, rfl⟩ := List.getElem?_eq_some_iff.1 h
 simp [Au3, List.getD_eq_getElem?_getD, List.getElem?_eq_getElem hj]
theorem R6.put {B g : Nat} {ok : Nat → Prop} {gs : List (List S123)} {v v' : Value} {W W' : World} {o : List S123} (h : R6 B g ok gs v W) (hr : Kd.R k271 271 W' B ok v' (Ai0 0 (gs ++ [o]))) (hg : W.grownBy W' v.ownBlock) :
  R6 B g ok (gs ++ [o]) v' ((W'.setCell ⟨g, 0, none⟩ v').setCell ⟨g, 1, none⟩ (.int .i64 (Ab2 gs + o.length))) := by
 have bx := Ab5 h.box hg (Kd.R_ne h.row h.box (by decide))
 have b1 := Aa7 bx 0 v'
 have b2 := Aa7 b1 1 (.int .i64 (Ab2 gs + o.length))
 refine ⟨by rw [Ak0]; simpa using b2, Kd.Ac3 (Kd.Ac3 hr bx (by decide) 0 v') b1 (by decide) 1 _, h.hg⟩
attribute [local go_sem high] eqA39 eqA172
theorem vt_eq {a b : S39} (h : (!(a.f0 == b.f0) || (!(a.f1 == b.f1) || !(a.f2 == b.f2))) = false) : a = b := Classical.byContradiction (fun (e : a ≠ b) => by rw [← vt_ne, h] at e; cases e)
theorem ft_eq {a b : S172} (h : ((!(a.f0.f0 == b.f0.f0) || (!(a.f0.f1 == b.f0.f1) || !(a.f0.f2 == b.f0.f2))) || !(a.f1 == b.f1)) = false) : a = b := Classical.byContradiction (fun (e : a ≠ b) => by rw [← ft_ne, h] at e; cases e)
theorem By8 {w : World} {A : Option Addr} {n : Nat} {l : List S172} (h : Kd.C k172 w A n l) {j : Nat} {x : S172} (hj : l[j]? = some x) : ∃ ad, A = some ad ∧ w.cell? (ad.add (j * 4)) = some (.int .i64 x.f0.f0) ∧ w.cell? ⟨(ad.add (j * 4)).block, (ad.add (j * 4)).off + 1, none⟩ = some (.bool x.f0.f1) ∧ w.cell? ⟨(ad.add (j * 4)).block, (ad.add (j * 4)).off + 2, none⟩ = some (.int .i64 x.f0.f2) ∧ w.cell? ⟨(ad.add (j * 4)).block, (ad.add (j * 4)).off + 3, none⟩ = some (.bool x.f1) := by
 obtain ⟨hl, hx⟩ := List.getElem?_eq_some_iff.1 hj
 have h1 := h.1
 have e := Bw8 h (j : Int) (by omega) (by omega)
 rw [rdFT_at l j hl, hx, Int.toNat_natCast] at e
 exact e
theorem Be3 {w : World} {A : Option Addr} {n : Nat} {l : List Int} (h : Kd.C (Kd.int .i64) w A n l) {j : Nat} {x : Int} (hj : l[j]? = some x) : ∃ ad, A = some ad ∧ w.cell? (ad.add j) = some (.int .i64 x) := by
 obtain ⟨hl, hx⟩ := List.getElem?_eq_some_iff.1 hj
 have h1 := h.1
 have e := Kd.Au2 h (j : Int) (by omega) (by omega)
 rw [rdI_at l j hl, hx, Int.toNat_natCast] at e
 exact e
theorem Ce6 {w : World} {A : Option Addr} {n : Nat} {l : List S39} (h : Kd.C k39 w A n l) {j : Nat} {x : S39} (hj : l[j]? = some x) : ∃ ad, A = some ad ∧ w.cell? (ad.add (j * 3)) = some (.int .i64 x.f0) ∧ w.cell? ⟨(ad.add (j * 3)).block, (ad.add (j * 3)).off + 1, none⟩ = some (.bool x.f1) ∧ w.cell? ⟨(ad.add (j * 3)).block, (ad.add (j * 3)).off + 2, none⟩ = some (.int .i64 x.f2) := by
 obtain ⟨hl, hx⟩ := List.getElem?_eq_some_iff.1 hj
 have h1 := h.1
 have e := Aq4 h (j : Int) (by omega) (by omega)
 rw [Cf7 l j hl, hx, Int.toNat_natCast] at e
 exact e
structure Bx5 (w : World) (A : Option Addr) (c : Nat) (ids : List Int) : Prop where
 C : Kd.C (Kd.int .i64) w A ids.length ids
 le : ids.length ≤ c
 b : ids.length ≤ 1000000000000
section
variable {w w' : World} {A : Option Addr} {c : Nat} {ids : List Int}
theorem Bx5.below (h : Bx5 w A c ids) (hb : Below w.heap.size w w') : Bx5 w' A c ids := ⟨Kd.Ab1 h.C hb, h.le, h.b⟩
theorem Be6 (hi : Bx5 w A c ids) (h : Int) (hq : Bh5 h) : Calls Tryz.prog 210 #[.int .i64 h, .slice A ids.length c, .int .i64 ids.length] w fun e w' => e = .returned (.int .i64 (Ac6 ids h)) ∧ w' = w := by
 obtain ⟨q1, q2⟩ := hq
 have hl := hi.b
 unfold Ac6
 by_cases h0 : h < 0
 ·rw [if_pos h0]
  clear hi
  go_enter Tryz.func210, Tryz.ntmps210
  go_wp2_with fail
  go_ret
  exact ⟨rfl, rfl⟩
 ·rw [if_neg h0]
  by_cases h1 : h < ids.length
  ·rw [if_pos h1]
   have h2 : ¬ ((ids.length : Int) ≤ h) := by omega
   obtain ⟨ad, rfl, x0⟩ := Kd.Au2 hi.C h (by omega) h1
   have h3 : 0 ≤ h := by omega
   clear hi hl q1 q2
   go_enter Tryz.func210, Tryz.ntmps210
   go_wp2_with fail
   go_ret
   exact ⟨rfl, rfl⟩
  ·rw [if_neg h1]
   have h2 : (ids.length : Int) ≤ h := by omega
   have e1 : wrap64 (h - ids.length) = h - ids.length := by unfold wrap64; omega
   have e2 : wrap64 (-100 - (h - (ids.length : Int))) = -100 - (h - ids.length) := by unfold wrap64; omega
   clear hi hl q1 q2
   go_enter Tryz.func210, Tryz.ntmps210
   go_wp2_with fail
   go_ret
   exact ⟨rfl, rfl⟩
theorem Bj4 (hi : Bx5 w A c ids) (v : S39) (hq : v.f0 = 5 → Bh5 v.f2) : Calls Tryz.prog 212 #[.agg #[.int .i64 v.f0, .bool v.f1, .int .i64 v.f2], .slice A ids.length c, .int .i64 ids.length] w fun e w' => e = .returned (.agg #[.int .i64 (mvp (Ac6 ids) v).f0, .bool (mvp (Ac6 ids) v).f1, .int .i64 (mvp (Ac6 ids) v).f2]) ∧ Below w.heap.size w w' := by
 unfold mvp
 by_cases h5 : v.f0 = 5
 ·rw [if_pos h5]
  have g5 : (v.f0 != 5) = false := by simp [h5]
  obtain ⟨W, hW⟩ : ∃ W, W = World.drew ((w.alloc (.cells #[.int .i64 v.f0, .bool v.f1, .int .i64 v.f2] 39)).alloc (.cells #[.int .i64 0, .bool false, .int .i64 0] 39)) := ⟨_, rfl⟩
  have b1 : Below w.heap.size w W := by rw [hW]; exact ((bz_).alloc (by simp) _).drew
  have q0 : W.heap[w.heap.size]? = some (.cells #[.int .i64 v.f0, .bool v.f1, .int .i64 v.f2] 39 (0, 0)) := by rw [hW]; exact Aa5 (Aa6 w _) _
  have q1 : W.heap[w.heap.size + 1]? = some (.cells #[.int .i64 0, .bool false, .int .i64 0] 39 (0, 0)) := by
   rw [hW]
   have h_ := Aa6 (w.alloc (.cells #[.int .i64 v.f0, .bool v.f1, .int .i64 v.f2] 39)) (.cells #[.int .i64 0, .bool false, .int .i64 0] 39)
   rw [World.size_alloc] at h_
   exact h_
  have HI := zA (hi.below b1)
  have HQ := zA (hq h5)
  have Q1 := zA (And.intro b1 q1)
  have x1 := bc_ q0 1
  have x2 := bc_ q0 2
  have E5 := zA h5
  clear hi hq b1 q0 q1 h5
  go_enter Tryz.func212, Tryz.ntmps212
  go_wp2_with fail
  refine Ab3 (n := 9) (S := fun w' => w'.cell? ⟨w.heap.size, 1, none⟩ = some (.bool v.f1) ∧ w'.cell? ⟨w.heap.size, 2, none⟩ = some (.int .i64 v.f2)) (ds := [8]) (bm_ 9 0) (by kernel_rfl) rfl rfl ⟨(by rw [← hW]; exact x1), (by rw [← hW]; exact x2)⟩ (fun hHeld => ?_)
  rw [← hW] at hHeld ⊢
  clear hW x1 x2
  refine pz_ 0 13 9 1 ?_
  refine pz_ 2 15 9 5 ?_
  refine pz_ 4 17 9 21 ?_
  refine pz_ 5 18 9 53 ?_
  refine tz_ 1 14 9 55 hHeld ?_
  refine tz_ 3 16 9 63 hHeld ?_
  refine oz_ 6 19 9 127 fun K hK => ?_
  refine gz_ Tryz.func210 #[.int .i64 v.f2, .slice A ids.length c, .int .i64 ids.length] ?_
  with_reducible refine (Be6 HI.out v.f2 HQ.out).mono ?_
  rintro e w3 ⟨rfl, e3⟩
  subst e3
  refine ⟨_, rfl, ?_⟩
  refine hK.out _ _ ⟨hHeld.1, hHeld.2⟩ (fun hHeld => ?_)
  clear hK K
  refine nz_ ?_
  refine pz_ 7 20 9 255 ?_
  refine Ag8 (i := 8) (N := none) (bm_ 9 511) rfl rfl (by kernel_rfl) (by decide) (fun K hK => ?_)
  have hs0 : w3.cell? ⟨w.heap.size + 1, 0, none⟩ = some (.int .i64 0) := (Aa0 Q1.out.2 0).trans rfl
  have hs1 : w3.cell? ⟨w.heap.size + 1, 1, none⟩ = some (.bool false) := (Aa0 Q1.out.2 1).trans rfl
  have hs2 : w3.cell? ⟨w.heap.size + 1, 2, none⟩ = some (.int .i64 0) := (Aa0 Q1.out.2 2).trans rfl
  have hf0 : w3.frozen? ⟨w.heap.size + 1, 0, none⟩ = false := Aa1 Q1.out.2 0
  have hf1 : w3.frozen? ⟨w.heap.size + 1, 1, none⟩ = false := Aa1 Q1.out.2 1
  have hf2 : w3.frozen? ⟨w.heap.size + 1, 2, none⟩ = false := Aa1 Q1.out.2 2
  refine sz_ ?_
  refine hK.out _ _ ?_
  clear hK K
  refine dz_ ?_
  go_wp2_with fail
  refine bodyPost_ret (results_cell_row rfl _ _ (w.heap.size + 1) 39 #[.int .i64 5, .bool v.f1, .int .i64 (Ac6 ids v.f2)] (0, 0) _ rfl (Aa7 (Aa7 (Aa7 Q1.out.2 0 _) 1 _) 2 _) Tryz.underlying39 rfl (by kernel_rfl)) rfl ?_
  exact ⟨by rw [E5.out], ((Q1.out.1.setCell (p := ⟨w.heap.size + 1, 0, none⟩) (Nat.le_succ _) _).setCell (p := ⟨w.heap.size + 1, 1, none⟩) (Nat.le_succ _) _).setCell (p := ⟨w.heap.size + 1, 2, none⟩) (Nat.le_succ _) _⟩
 ·rw [if_neg h5]
  have g5 : (v.f0 != 5) = true := by simp [h5]
  clear hi hq h5
  go_enter Tryz.func212, Tryz.ntmps212
  go_wp2_with fail
  refine bodyPost_ret (results_cell_row rfl _ _ (w.heap.size + 1) 39 #[.int .i64 v.f0, .bool false, .int .i64 0] (0, 0) _ rfl (by have h_ := Aa6 (w.alloc (.cells #[.int .i64 v.f0, .bool v.f1, .int .i64 v.f2] 39)) (.cells #[.int .i64 v.f0, .bool false, .int .i64 0] 39); rw [World.size_alloc] at h_; exact h_) Tryz.underlying39 rfl (by kernel_rfl)) rfl ?_
  exact ⟨rfl, (bz_).alloc (by simp) _⟩
set_option maxHeartbeats 4000000 in
theorem Be5 (hi : Bx5 w A c ids) {Al : Option Addr} {cl : Nat} {l : List S39} (hC : Kd.C k39 w Al l.length l) (hl : l.length ≤ 1048576) (hq : ∀ v ∈ l, v.f0 = 5 → Bh5 v.f2) :
  Calls Tryz.prog 211 #[.slice Al l.length cl, .slice A ids.length c, .int .i64 ids.length] w fun e w' => ∃ u, e = .returned u ∧ Kd.R k39 39 w' w.heap.size (fun _ => True) u (l.map (mvp (Ac6 ids))) ∧ Below w.heap.size w w' := by
 have HI := zA hi
 have HC := zA hC
 have HQ := zA hq
 have HL := zA hl
 clear hi hC hq hl
 go_enter Tryz.func211, Tryz.ntmps211
 go_wp2_with fail
 go_loopw [7, 8] (fun u i W => ∃ j : Nat, i = .int .i64 j ∧ j ≤ l.length ∧ Kd.R k39 39 W w.heap.size (fun _ => True) u ((l.take j).map (mvp (Ac6 ids))) ∧ Below w.heap.size w W) (fun _ i _ => l.length - (intOf i).toNat)
 case atStart => exact ⟨0, rfl, Nat.zero_le _, Kd.Aj9 _ _ _ _ _, Below.refl _ _⟩
 case round =>
  obtain ⟨j, rfl, hj, hr, hb⟩ := hrel
  have R := zA hr
  have B := zA hb
  by_cases hlt : j < l.length
  ·have hx : l[j]? = some (Ac7 l (j : Int)) := by rw [Cf7 l j hlt]; exact List.getElem?_eq_getElem hlt
   obtain ⟨ad, rfl, x0, x1, x2⟩ := Aq4 (Kd.Ab1 HC.out hb) (j : Int) (by omega) (by omega)
   obtain ⟨v, hv⟩ : ∃ v, v = Ac7 l (j : Int) := ⟨_, rfl⟩
   rw [← hv] at x0 x1 x2 hx
   simp only [Int.toNat_natCast] at x0 x1 x2
   obtain ⟨Aj, cj, ev⟩ := Kd.Aa9 hr
   have hlen : ((l.take j).map (mvp (Ac6 ids))).length = j := by rw [List.length_map, List.length_take]; omega
   rw [hlen] at ev
   subst ev
   have K := Bj4 (HI.out.below hb) v (HQ.out v (List.mem_of_getElem? hx))
   obtain ⟨y, hy⟩ : ∃ y, y = mvp (Ac6 ids) v := ⟨_, rfl⟩
   rw [← hy] at K
   have HX := zA (And.intro hx hy)
   have HLEN := zA hlen
   have hlt2 : (j : Int) < (l.length : Int) := by omega
   have hl1 := HL.out
   have hj0 : (0 : Int) ≤ (j : Int) := by omega
   clear hr hb hlen hx hy hv
   go_wp2_with fail
   refine K.mono ?_
   rintro e w2 ⟨rfl, hb2⟩
   have B2 := zA (B.out.trans (hb2.mono B.out.size))
   have R2 := zA (Kd.Ac5 R.out hb2)
   clear K hb2 x0 x1 x2
   go_wp2_with (at_builtin; refine Kd.Af9 k39 (w0 := w) w.heap.size rfl (.tmp 15) (.tmp 23) 27 39 (.agg #[.int .i64 0, .bool false, .int .i64 0]) 24 rfl Tryz.underlying27 Am5 rfl (by decide) (by decide) (.slice Aj j cj) ((l.take j).map (mvp (Ac6 ids))) y [.int .i64 y.f0, .bool y.f1, .int .i64 y.f2] (fun _ => True) (fun _ => False) rfl rfl (Ai2 _ _ _ y) (fun _ hk_ => hk_.elim) (fun _ _ => trivial) R2.out B2.out B2.out.size (by have := HLEN.out; have := HL.out; omega) ?_; intro v1 w1 hr1 hb1 _ _; have R1 := zA hr1; have B1 := zA hb1; clear hr1 hb1)
   go_roundw
   case rel => exact ⟨j + 1, by go_num, hlt, by rw [List.take_add_one, HX.out.1, List.map_append]; have h_ := R1.out; rw [HX.out.2] at h_; exact h_, B1.out⟩
   case measure => simp [intOf]; omega
  ·obtain rfl : j = l.length := by omega
   clear hlt hr hb
   go_wp2_with fail
   go_ret
   exact ⟨_, rfl, by have h_ := R.out; rw [List.take_length] at h_; exact h_, B.out⟩
open Classical in
set_option maxHeartbeats 4000000 in
theorem Ay8 {A1 A2 : Option Addr} {c1 c2 : Nat} {a b : List S39} (h1 : Kd.C k39 w A1 a.length a) (h2 : Kd.C k39 w A2 b.length b) (hl : a.length ≤ 1048576) :
  Calls Tryz.prog 214 #[.slice A1 a.length c1, .slice A2 b.length c2] w fun e w' => e = .returned (.bool (decide (a = b))) ∧ Below w.heap.size w w' := by
 obtain ⟨rb, hrb⟩ : ∃ rb, rb = decide (a = b) := ⟨_, rfl⟩
 rw [← hrb]
 have HRB := zA hrb
 clear hrb
 by_cases he : a.length = b.length
 ·obtain ⟨n, hn⟩ : ∃ n, n = a.length := ⟨_, rfl⟩
  rw [← he]
  rw [← he] at h2
  rw [← hn] at h1 h2 hl ⊢
  have HN := zA (And.intro hn he)
  have H1 := zA h1
  have H2 := zA h2
  clear h1 h2 hn he
  go_enter Tryz.func214, Tryz.ntmps214
  go_wp2_with fail
  go_loopw [5] (fun i W => ∃ j : Nat, i = .int .i64 j ∧ j ≤ n ∧ a.take j = b.take j ∧ Below w.heap.size w W) (fun i _ => n - (intOf i).toNat)
  case atStart => exact ⟨0, rfl, Nat.zero_le _, rfl, Below.refl _ _⟩
  case round =>
   obtain ⟨j, rfl, hj, ht, hb⟩ := hrel
   have HT := zA ht
   have B := zA hb
   by_cases hlt : j < n
   ·obtain ⟨x, hx⟩ : ∃ x, a[j]? = some x := ⟨_, List.getElem?_eq_getElem (by rw [← HN.out.1]; exact hlt)⟩
    obtain ⟨y, hy⟩ : ∃ y, b[j]? = some y := ⟨_, List.getElem?_eq_getElem (by rw [← HN.out.2, ← HN.out.1]; exact hlt)⟩
    obtain ⟨ad, rfl, x0, x1, x2⟩ := Ce6 (Kd.Ab1 H1.out hb) hx
    obtain ⟨ae, rfl, y0, y1, y2⟩ := Ce6 (Kd.Ab1 H2.out hb) hy
    have HX := zA (And.intro hx hy)
    have hlt2 : (j : Int) < (n : Int) := by omega
    clear ht hb hx hy
    go_wp2_with fail
    refine Ab3 (n := 9) (S := fun w' => w'.cell? (ad.add (j * 3)) = some (.int .i64 x.f0) ∧ w'.cell? ⟨(ad.add (j * 3)).block, (ad.add (j * 3)).off + 1, none⟩ = some (.bool x.f1) ∧ w'.cell? ⟨(ad.add (j * 3)).block, (ad.add (j * 3)).off + 2, none⟩ = some (.int .i64 x.f2) ∧ w'.cell? (ae.add (j * 3)) = some (.int .i64 y.f0) ∧ w'.cell? ⟨(ae.add (j * 3)).block, (ae.add (j * 3)).off + 1, none⟩ = some (.bool y.f1) ∧ w'.cell? ⟨(ae.add (j * 3)).block, (ae.add (j * 3)).off + 2, none⟩ = some (.int .i64 y.f2)) (ds := []) (bm_ 9 0) (by kernel_rfl) rfl rfl ⟨x0, x1, x2, y0, y1, y2⟩ (fun hHeld => ?_)
    refine pz_ 0 17 9 1 ?_
    refine pz_ 1 18 9 3 ?_
    refine pz_ 2 19 9 7 ?_
    refine pz_ 4 21 9 23 ?_
    refine pz_ 5 22 9 55 ?_
    refine pz_ 6 23 9 119 ?_
    refine tz_ 3 20 9 127 hHeld ?_
    refine tz_ 7 24 9 255 hHeld ?_
    refine pz_ 8 25 9 511 ?_
    refine dz_ ?_
    have B2 := zA B.out.drew
    clear hHeld x0 x1 x2 y0 y1 y2
    generalize hbt : (!(x.f0 == y.f0) || (!(x.f1 == y.f1) || !(x.f2 == y.f2))) = bt
    have HBT := zA hbt
    clear hbt
    cases bt with
    | false =>
     have HXY := zA (vt_eq HBT.out)
     go_wp2_with fail
     go_roundw
     case rel => exact ⟨j + 1, by go_num, hlt, by rw [List.take_add_one, List.take_add_one, HT.out, HX.out.1, HX.out.2, HXY.out], B2.out⟩
     case measure => simp [intOf]; omega
    | true =>
     obtain rfl : rb = false := HRB.out.trans (decide_eq_false (fun e => by have h0 := HBT.out; rw [vt_ne] at h0; have h1 := HX.out.1; rw [e, HX.out.2] at h1; exact h0 (Option.some.inj h1).symm))
     go_wp2_with fail
     go_ret
     exact ⟨rfl, B2.out⟩
   ·obtain rfl : j = n := by omega
    have HE : Aa2 (a = b) := ⟨by have h_ := HT.out; rwa [HN.out.1, List.take_length, HN.out.2, List.take_length] at h_⟩
    obtain rfl : rb = true := HRB.out.trans (decide_eq_true HE.out)
    clear hlt ht hb
    go_wp2_with fail
    go_ret
    exact ⟨rfl, B.out⟩
 ·obtain rfl : rb = false := HRB.out.trans (decide_eq_false (fun e => he (by rw [e])))
  have g1 : ((a.length : Int) != (b.length : Int)) = true := by simp; omega
  clear h1 h2 hl he
  go_enter Tryz.func214, Tryz.ntmps214
  go_wp2_with fail
  go_ret
  exact ⟨rfl, Below.refl _ _⟩
theorem st_eq {a b : S123} (h0 : a.f0 = b.f0) (h1 : a.f1 = b.f1) (h2 : a.f2.f0 = b.f2.f0) (h3 : a.f2.f1 = b.f2.f1) (h4 : a.f2.f2 = b.f2.f2) (h5 : a.f2.f3 = b.f2.f3) : a = b := by
 obtain ⟨a0, a1, a2, a3, a4, a5⟩ := a
 obtain ⟨b0, b1, b2, b3, b4, b5⟩ := b
 dsimp only at h0 h1 h2 h3 h4 h5
 rw [h0, h1, h2, h3, h4, h5]
structure Bm8 (w : World) (A1 : Option Addr) (c1 : Nat) (A3 : Option Addr) (c3 : Nat) (A4 : Option Addr) (c4 : Nat) (A5 : Option Addr) (c5 : Nat) (s : S123) : Prop where
 C1 : Kd.C (Kd.int .i64) w A1 s.f1.length s.f1
 l1 : s.f1.length ≤ c1
 C3 : Kd.C k39 w A3 s.f2.f1.length s.f2.f1
 l3 : s.f2.f1.length ≤ c3
 C4 : Kd.C k39 w A4 s.f2.f2.length s.f2.f2
 l4 : s.f2.f2.length ≤ c4
 C5 : Kd.C k172 w A5 s.f2.f3.length s.f2.f3
 l5 : s.f2.f3.length ≤ c5
 w_ : wS s ≤ 1048576
theorem Bm8.below {A1 : Option Addr} {c1 : Nat} {A3 : Option Addr} {c3 : Nat} {A4 : Option Addr} {c4 : Nat} {A5 : Option Addr} {c5 : Nat} {s : S123} (h : Bm8 w A1 c1 A3 c3 A4 c4 A5 c5 s) (hb : Below w.heap.size w w') : Bm8 w' A1 c1 A3 c3 A4 c4 A5 c5 s := ⟨Kd.Ab1 h.C1 hb, h.l1, Kd.Ab1 h.C3 hb, h.l3, Kd.Ab1 h.C4 hb, h.l4, Kd.Ab1 h.C5 hb, h.l5, h.w_⟩
open Classical in
set_option maxHeartbeats 8000000 in
theorem Br3 {P1 : Option Addr} {Pc1 : Nat} {P3 : Option Addr} {Pc3 : Nat} {P4 : Option Addr} {Pc4 : Nat} {P5 : Option Addr} {Pc5 : Nat} {Q1 : Option Addr} {Qc1 : Nat} {Q3 : Option Addr} {Qc3 : Nat} {Q4 : Option Addr} {Qc4 : Nat} {Q5 : Option Addr} {Qc5 : Nat} {a b : S123} (ha : Bm8 w P1 Pc1 P3 Pc3 P4 Pc4 P5 Pc5 a) (hb : Bm8 w Q1 Qc1 Q3 Qc3 Q4 Qc4 Q5 Qc5 b) :
  Calls Tryz.prog 213 #[.agg #[.bool a.f0, .slice P1 a.f1.length Pc1, .int .i64 a.f2.f0, .slice P3 a.f2.f1.length Pc3, .slice P4 a.f2.f2.length Pc4, .slice P5 a.f2.f3.length Pc5], .agg #[.bool b.f0, .slice Q1 b.f1.length Qc1, .int .i64 b.f2.f0, .slice Q3 b.f2.f1.length Qc3, .slice Q4 b.f2.f2.length Qc4, .slice Q5 b.f2.f3.length Qc5]] w fun e w' => e = .returned (.bool (decide (a = b))) ∧ Below w.heap.size w w' := by
 obtain ⟨rb, hrb⟩ : ∃ rb, rb = decide (a = b) := ⟨_, rfl⟩
 obtain ⟨p0, hp0⟩ : ∃ p, p = a.f0 := ⟨_, rfl⟩
 obtain ⟨q0, hq0⟩ : ∃ p, p = b.f0 := ⟨_, rfl⟩
 obtain ⟨k0, hk0⟩ : ∃ p, p = a.f2.f0 := ⟨_, rfl⟩
 obtain ⟨l0, hl0⟩ : ∃ p, p = b.f2.f0 := ⟨_, rfl⟩
 obtain ⟨n1, hn1⟩ : ∃ p, p = a.f1.length := ⟨_, rfl⟩
 obtain ⟨m1, hm1⟩ : ∃ p, p = b.f1.length := ⟨_, rfl⟩
 obtain ⟨n5, hn5⟩ : ∃ p, p = a.f2.f3.length := ⟨_, rfl⟩
 obtain ⟨m5, hm5⟩ : ∃ p, p = b.f2.f3.length := ⟨_, rfl⟩
 rw [← hrb, ← hp0, ← hq0, ← hk0, ← hl0, ← hn1, ← hm1, ← hn5, ← hm5]
 have HRB := zA hrb
 have H0 := zA (And.intro hp0 hq0)
 have H2 := zA (And.intro hk0 hl0)
 have N1 := zA (And.intro hn1 hm1)
 have N5 := zA (And.intro hn5 hm5)
 obtain ⟨W, hW⟩ : ∃ W, W = ((w.alloc (.cells #[.bool p0, .slice P1 n1 Pc1, .int .i64 k0, .slice P3 a.f2.f1.length Pc3, .slice P4 a.f2.f2.length Pc4, .slice P5 n5 Pc5] 123)).alloc (.cells #[.bool q0, .slice Q1 m1 Qc1, .int .i64 l0, .slice Q3 b.f2.f1.length Qc3, .slice Q4 b.f2.f2.length Qc4, .slice Q5 m5 Qc5] 123)) := ⟨_, rfl⟩
 have b1 : Below w.heap.size w W := by rw [hW]; exact (bz_).alloc (by simp) _
 have q0_ : W.heap[w.heap.size]? = some (.cells #[.bool p0, .slice P1 n1 Pc1, .int .i64 k0, .slice P3 a.f2.f1.length Pc3, .slice P4 a.f2.f2.length Pc4, .slice P5 n5 Pc5] 123 (0, 0)) := by rw [hW]; exact Aa5 (Aa6 w _) _
 have q1_ : W.heap[w.heap.size + 1]? = some (.cells #[.bool q0, .slice Q1 m1 Qc1, .int .i64 l0, .slice Q3 b.f2.f1.length Qc3, .slice Q4 b.f2.f2.length Qc4, .slice Q5 m5 Qc5] 123 (0, 0)) := by
  rw [hW]
  have h_ := Aa6 (w.alloc (.cells #[.bool p0, .slice P1 n1 Pc1, .int .i64 k0, .slice P3 a.f2.f1.length Pc3, .slice P4 a.f2.f2.length Pc4, .slice P5 n5 Pc5] 123)) (.cells #[.bool q0, .slice Q1 m1 Qc1, .int .i64 l0, .slice Q3 b.f2.f1.length Qc3, .slice Q4 b.f2.f2.length Qc4, .slice Q5 m5 Qc5] 123)
  rw [World.size_alloc] at h_
  exact h_
 have HA := zA (ha.below b1)
 have HB := zA (hb.below b1)
 have BW := zA b1
 have L1 : Aa2 (n1 ≤ 1048576 ∧ n5 ≤ 1048576 ∧ a.f2.f1.length ≤ 1048576 ∧ a.f2.f2.length ≤ 1048576) := ⟨by have h_ := ha.w_; unfold wS at h_; omega⟩
 clear ha hb hrb b1 hp0 hq0 hk0 hl0 hn1 hm1 hn5 hm5
 go_enter Tryz.func213, Tryz.ntmps213
 go_upto_region 1 with fail
 rw [← hW]
 clear hW
 have z0 : W.cell? ⟨w.heap.size, 0, none⟩ = some (.bool p0) := (Aa0 q0_ 0).trans rfl
 have z1 : W.cell? ⟨w.heap.size, 1, none⟩ = some (.slice P1 n1 Pc1) := (Aa0 q0_ 1).trans rfl
 have z2 : W.cell? ⟨w.heap.size, 2, none⟩ = some (.int .i64 k0) := (Aa0 q0_ 2).trans rfl
 have z5 : W.cell? ⟨w.heap.size, 5, none⟩ = some (.slice P5 n5 Pc5) := (Aa0 q0_ 5).trans rfl
 have y0 : W.cell? ⟨w.heap.size + 1, 0, none⟩ = some (.bool q0) := (Aa0 q1_ 0).trans rfl
 have y1 : W.cell? ⟨w.heap.size + 1, 1, none⟩ = some (.slice Q1 m1 Qc1) := (Aa0 q1_ 1).trans rfl
 have y2 : W.cell? ⟨w.heap.size + 1, 2, none⟩ = some (.int .i64 l0) := (Aa0 q1_ 2).trans rfl
 have y5 : W.cell? ⟨w.heap.size + 1, 5, none⟩ = some (.slice Q5 m5 Qc5) := (Aa0 q1_ 5).trans rfl
 have Q1_ := zA (And.intro q0_ q1_)
 clear q0_ q1_
 by_cases h0 : p0 = q0
 rotate_left
 ·obtain rfl : rb = false := HRB.out.trans (decide_eq_false (fun e => h0 (by rw [H0.out.1, H0.out.2, e])))
  clear H0 Q1_
  cases p0 <;> cases q0 <;> first | exact absurd rfl h0 | skip
  all_goals
   clear h0
   go_wp2_with fail
   go_ret
   exact ⟨rfl, BW.out⟩
 subst h0
 by_cases h0 : n1 = m1
 rotate_left
 ·obtain rfl : rb = false := HRB.out.trans (decide_eq_false (fun e => h0 (by rw [N1.out.1, N1.out.2, e])))
  have g0 : ((n1 : Int) != (m1 : Int)) = true := by simp; omega
  clear h0
  go_wp2_with fail
  go_ret
  exact ⟨rfl, BW.out⟩
 subst h0
 by_cases h0 : k0 = l0
 rotate_left
 ·obtain rfl : rb = false := HRB.out.trans (decide_eq_false (fun e => h0 (by rw [H2.out.1, H2.out.2, e])))
  have g0 : (k0 != l0) = true := by simp; omega
  clear h0
  go_wp2_with fail
  go_ret
  exact ⟨rfl, BW.out⟩
 subst h0
 by_cases h0 : n5 = m5
 rotate_left
 ·obtain rfl : rb = false := HRB.out.trans (decide_eq_false (fun e => h0 (by rw [N5.out.1, N5.out.2, e])))
  have g0 : ((n5 : Int) != (m5 : Int)) = true := by simp; omega
  clear h0
  go_wp2_with fail
  go_ret
  exact ⟨rfl, BW.out⟩
 subst h0
 go_wp2_with fail
 clear z0 z1 z2 z5 y0 y1 y2 y5
 go_loopw [5] (fun i W2 => ∃ j : Nat, i = .int .i64 j ∧ j ≤ n1 ∧ a.f1.take j = b.f1.take j ∧ Below W.heap.size W W2) (fun i _ => n1 - (intOf i).toNat)
 case atStart => exact ⟨0, rfl, Nat.zero_le _, rfl, Below.refl _ _⟩
 case round =>
  obtain ⟨j, rfl, hj, ht, hb⟩ := hrel
  have HT := zA ht
  have B := zA hb
  have l1 := L1.out.1
  have z1 := bc_ (Aa3 Q1_.out.1 hb) 1
  have y1 := bc_ (Aa3 Q1_.out.2 hb) 1
  by_cases hlt : j < n1
  ·obtain ⟨x, hx⟩ : ∃ x, a.f1[j]? = some x := ⟨_, List.getElem?_eq_getElem (by rw [← N1.out.1]; exact hlt)⟩
   obtain ⟨y, hy⟩ : ∃ y, b.f1[j]? = some y := ⟨_, List.getElem?_eq_getElem (by rw [← N1.out.2]; exact hlt)⟩
   obtain ⟨ad, rfl, x0⟩ := Be3 (Kd.Ab1 HA.out.C1 hb) hx
   obtain ⟨ae, rfl, y0⟩ := Be3 (Kd.Ab1 HB.out.C1 hb) hy
   have HX := zA (And.intro hx hy)
   have hlt2 : (j : Int) < (n1 : Int) := by omega
   clear ht hb hx hy
   go_wp2_with fail
   refine Ab3 (n := 11) (S := fun w' => w'.cell? ⟨w.heap.size, 1, none⟩ = some (.slice (some ad) n1 Pc1) ∧ w'.cell? ⟨w.heap.size + 1, 1, none⟩ = some (.slice (some ae) n1 Qc1) ∧ w'.cell? (ad.add j) = some (.int .i64 x) ∧ w'.cell? (ae.add j) = some (.int .i64 y)) (ds := []) (bm_ 11 0) (by kernel_rfl) rfl rfl ⟨z1, y1, x0, y0⟩ (fun hHeld => ?_)
   refine pz_ 0 48 11 1 ?_
   refine pz_ 2 50 11 5 ?_
   refine pz_ 5 53 11 37 ?_
   refine pz_ 7 55 11 165 ?_
   refine tz_ 1 49 11 167 hHeld ?_
   refine pz_ 3 51 11 175 ?_
   refine tz_ 4 52 11 191 hHeld ?_
   refine tz_ 6 54 11 255 hHeld ?_
   refine pz_ 8 56 11 511 ?_
   refine tz_ 9 57 11 1023 hHeld ?_
   refine pz_ 10 58 11 2047 ?_
   refine dz_ ?_
   have B2 := zA B.out.drew
   clear hHeld z1 y1 x0 y0
   generalize hbt : (x != y) = bt
   have HBT := zA hbt
   clear hbt
   cases bt with
   | false =>
    have HXY : Aa2 (x = y) := ⟨by have h_ := HBT.out; simpa using h_⟩
    go_wp2_with fail
    go_roundw
    case rel => exact ⟨j + 1, by go_num, hlt, by rw [List.take_add_one, List.take_add_one, HT.out, HX.out.1, HX.out.2, HXY.out], B2.out⟩
    case measure => simp [intOf]; omega
   | true =>
    obtain rfl : rb = false := HRB.out.trans (decide_eq_false (fun e => by have h0 := HBT.out; have h1 := HX.out.1; rw [e, HX.out.2] at h1; rw [Option.some.inj h1] at h0; simp at h0))
    go_wp2_with fail
    go_ret
    exact ⟨rfl, BW.out.trans (B2.out.mono BW.out.size)⟩
  ·obtain rfl : j = n1 := by omega
   have F1 : Aa2 (a.f1 = b.f1) := ⟨by have h_ := HT.out; rw [N1.out.1, List.take_length, ← N1.out.1, N1.out.2, List.take_length] at h_; exact h_⟩
   clear hlt ht hb
   go_wp2_with fail
   have B0 := zA B.out
   obtain ⟨w0, hw0⟩ : ∃ w0 : World, w0 = wr := ⟨_, rfl⟩
   rw [← hw0] at B0 ⊢
   clear hw0 B HT l1 z1 y1
   go_loopw [6] (fun i W2 => ∃ j : Nat, i = .int .i64 j ∧ j ≤ n5 ∧ a.f2.f3.take j = b.f2.f3.take j ∧ Below W.heap.size W W2) (fun i _ => n5 - (intOf i).toNat)
   case atStart => exact ⟨0, rfl, Nat.zero_le _, rfl, B0.out⟩
   case round =>
    clear B0
    obtain ⟨j, rfl, hj, ht, hb⟩ := hrel
    have HT := zA ht
    have B := zA hb
    have l1 := L1.out.2.1
    have z5 := bc_ (Aa3 Q1_.out.1 hb) 5
    have y5 := bc_ (Aa3 Q1_.out.2 hb) 5
    by_cases hlt : j < n5
    ·obtain ⟨x, hx⟩ : ∃ x, a.f2.f3[j]? = some x := ⟨_, List.getElem?_eq_getElem (by rw [← N5.out.1]; exact hlt)⟩
     obtain ⟨y, hy⟩ : ∃ y, b.f2.f3[j]? = some y := ⟨_, List.getElem?_eq_getElem (by rw [← N5.out.2]; exact hlt)⟩
     obtain ⟨ad, rfl, x0, x1, x2, x3⟩ := By8 (Kd.Ab1 HA.out.C5 hb) hx
     obtain ⟨ae, rfl, y0, y1, y2, y3⟩ := By8 (Kd.Ab1 HB.out.C5 hb) hy
     have HX := zA (And.intro hx hy)
     have hlt2 : (j : Int) < (n5 : Int) := by omega
     clear ht hb hx hy
     go_wp2_with fail
     refine Ab3 (n := 13) (S := fun w' => w'.cell? ⟨w.heap.size, 5, none⟩ = some (.slice (some ad) n5 Pc5) ∧ w'.cell? ⟨w.heap.size + 1, 5, none⟩ = some (.slice (some ae) n5 Qc5) ∧ w'.cell? (ad.add (j * 4)) = some (.int .i64 x.f0.f0) ∧ w'.cell? ⟨(ad.add (j * 4)).block, (ad.add (j * 4)).off + 1, none⟩ = some (.bool x.f0.f1) ∧ w'.cell? ⟨(ad.add (j * 4)).block, (ad.add (j * 4)).off + 2, none⟩ = some (.int .i64 x.f0.f2) ∧ w'.cell? ⟨(ad.add (j * 4)).block, (ad.add (j * 4)).off + 3, none⟩ = some (.bool x.f1) ∧ w'.cell? (ae.add (j * 4)) = some (.int .i64 y.f0.f0) ∧ w'.cell? ⟨(ae.add (j * 4)).block, (ae.add (j * 4)).off + 1, none⟩ = some (.bool y.f0.f1) ∧ w'.cell? ⟨(ae.add (j * 4)).block, (ae.add (j * 4)).off + 2, none⟩ = some (.int .i64 y.f0.f2) ∧ w'.cell? ⟨(ae.add (j * 4)).block, (ae.add (j * 4)).off + 3, none⟩ = some (.bool y.f1)) (ds := []) (bm_ 13 0) (by kernel_rfl) rfl rfl ⟨z5, y5, x0, x1, x2, x3, y0, y1, y2, y3⟩ (fun hHeld => ?_)
     refine pz_ 0 67 13 1 ?_
     refine pz_ 1 68 13 3 ?_
     refine pz_ 3 70 13 11 ?_
     refine pz_ 6 73 13 75 ?_
     refine pz_ 7 74 13 203 ?_
     refine pz_ 9 76 13 715 ?_
     refine tz_ 2 69 13 719 hHeld ?_
     refine pz_ 4 71 13 735 ?_
     refine tz_ 5 72 13 767 hHeld ?_
     refine tz_ 8 75 13 1023 hHeld ?_
     refine pz_ 10 77 13 2047 ?_
     refine tz_ 11 78 13 4095 hHeld ?_
     refine pz_ 12 79 13 8191 ?_
     refine dz_ ?_
     have B2 := zA B.out.drew
     clear hHeld z5 y5 x0 x1 x2 x3 y0 y1 y2 y3
     generalize hbt : ((!(x.f0.f0 == y.f0.f0) || (!(x.f0.f1 == y.f0.f1) || !(x.f0.f2 == y.f0.f2))) || !(x.f1 == y.f1)) = bt
     have HBT := zA hbt
     clear hbt
     cases bt with
     | false =>
      have HXY := zA (ft_eq HBT.out)
      go_wp2_with fail
      go_roundw
      case rel => exact ⟨j + 1, by go_num, hlt, by rw [List.take_add_one, List.take_add_one, HT.out, HX.out.1, HX.out.2, HXY.out], B2.out⟩
      case measure => simp [intOf]; omega
     | true =>
      obtain rfl : rb = false := HRB.out.trans (decide_eq_false (fun e => by have h0 := HBT.out; rw [ft_ne] at h0; have h1 := HX.out.1; rw [e, HX.out.2] at h1; exact h0 (Option.some.inj h1).symm))
      go_wp2_with fail
      go_ret
      exact ⟨rfl, BW.out.trans (B2.out.mono BW.out.size)⟩
    ·obtain rfl : j = n5 := by omega
     have F5 : Aa2 (a.f2.f3 = b.f2.f3) := ⟨by have h_ := HT.out; rw [N5.out.1, List.take_length, ← N5.out.1, N5.out.2, List.take_length] at h_; exact h_⟩
     have z3 := bc_ (Aa3 Q1_.out.1 hb) 3
     have y3 := bc_ (Aa3 Q1_.out.2 hb) 3
     have K3 := Ay8 (c1 := Pc3) (c2 := Qc3) (Kd.Ab1 HA.out.C3 hb) (Kd.Ab1 HB.out.C3 hb) L1.out.2.2.1
     clear hlt ht hb y5
     obtain ⟨r3, hr3⟩ : ∃ r, r = decide (a.f2.f1 = b.f2.f1) := ⟨_, rfl⟩
     rw [← hr3] at K3
     have HR3 := zA hr3
     clear hr3
     go_wp2_with fail
     refine K3.mono ?_
     rintro e w3 ⟨rfl, hb3⟩
     have B3 := zA (B.out.trans (hb3.mono B.out.size))
     clear K3 hb3 z3 y3 z5
     cases r3 with
     | false =>
      obtain rfl : rb = false := HRB.out.trans (decide_eq_false (fun e => by have h_ := HR3.out; rw [e, decide_eq_true rfl] at h_; cases h_))
      go_wp2_with fail
      go_ret
      exact ⟨rfl, BW.out.trans (B3.out.mono BW.out.size)⟩
     | true =>
      have z4 := bc_ (Aa3 Q1_.out.1 B3.out) 4
      have y4 := bc_ (Aa3 Q1_.out.2 B3.out) 4
      have K4 := Ay8 (c1 := Pc4) (c2 := Qc4) (Kd.Ab1 HA.out.C4 B3.out) (Kd.Ab1 HB.out.C4 B3.out) L1.out.2.2.2
      obtain ⟨r4, hr4⟩ : ∃ r, r = decide (a.f2.f2 = b.f2.f2) := ⟨_, rfl⟩
      rw [← hr4] at K4
      have HR4 : rb = r4 := by
       rw [HRB.out, hr4]
       exact decide_eq_decide.2 ⟨fun e => by rw [e], fun e => st_eq (by rw [← H0.out.1, H0.out.2]) F1.out (by rw [← H2.out.1, H2.out.2]) (of_decide_eq_true HR3.out.symm) e F5.out⟩
      subst HR4
      clear hr4
      go_wp2_with fail
      refine K4.mono ?_
      rintro e w4 ⟨rfl, hb4⟩
      have B4 := zA (B3.out.trans (hb4.mono B3.out.size))
      clear K4 hb4 z4 y4
      go_wp2_with fail
      go_ret
      exact ⟨rfl, BW.out.trans (B4.out.mono BW.out.size)⟩
end
end Go.Proofs.YtohlmkcgempdlaaGreatDoor.Cn
