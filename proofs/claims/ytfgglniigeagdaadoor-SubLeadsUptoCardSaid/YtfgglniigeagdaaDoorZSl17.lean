/- Parts of the proof of subLeads_holds (17 of 18): what it says and shows stands at its declarations. -/
import Derived.Test.YtfgglniigeagdaaDoorZSl16
namespace Go.Proofs.YtfgglniigeagdaaDoor.Cn
set_option linter.unusedSimpArgs false
set_option linter.unusedVariables false
open Go.RowKit Go.Maps Go.Proofs.YtfgglniigeagdaaDoorW.PrintWords Go.Proofs.YtfgglniigeagdaaDoorW.PrintLast Go.Proofs.YtfgglniigeagdaaDoorW.PrintMore Go.Proofs.YtfgglniigeagdaaDoor.QD
set_option maxRecDepth 100000 in
set_option maxHeartbeats 4000000 in
theorem sval_plain (p : Option Addr) (l : List S62) (a b : S74) (w : World) (h5 : ¬ (a.f0 = 5 ∧ b.f0 = 5)) :
    Calls Tryd.prog 56 #[.pointer p, .agg #[.int .i64 a.f0, .bool a.f1, .int .i64 a.f2], .agg #[.int .i64 b.f0, .bool b.f1, .int .i64 b.f2]] w fun e w' => e = .returned (.bool (valM l a b)) ∧ Below w.heap.size w w' := by
  obtain ⟨x0, x1, x2⟩ := a
  obtain ⟨y0, y1, y2⟩ := b
  dsimp only at h5 ⊢
  have ba : Below w.heap.size w ((w.alloc (.cells #[.int .i64 x0, .bool x1, .int .i64 x2] 74)).alloc (.cells #[.int .i64 y0, .bool y1, .int .i64 y2] 74)) := ((Below.refl _ _).alloc (Nat.le_refl _) _).alloc (by simp) _
  have BA := Aside0.mk ba
  clear ba
  by_cases h1 : x0 = y0
  · subst h1
    have h4 : ¬ x0 = 5 := fun h => h5 ⟨h, h⟩
    by_cases h2 : 1 ≤ x0
    · by_cases h3 : x0 ≤ 7
      · have EM : Aside0 (valM l ⟨x0, x1, x2⟩ ⟨x0, y1, y2⟩ = true) := ⟨by simp [valM, h2, h3, h4]⟩
        have hlt : ¬ x0 < 1 := by omega
        have hgt : ¬ 7 < x0 := by omega
        have hne : (x0 != 5) = true := by simp [h4]
        clear h5
        go_enter Tryd.func56, Tryd.ntmps56
        go_wp2_with fail
        go_ret
        exact ⟨by rw [EM.out]; rfl, BA.out⟩
      · have EM : Aside0 (valM l ⟨x0, x1, x2⟩ ⟨x0, y1, y2⟩ = false) := ⟨by simp [valM, h2, h3]⟩
        have hlt : ¬ x0 < 1 := by omega
        have hgt : 7 < x0 := by omega
        clear h5
        go_enter Tryd.func56, Tryd.ntmps56
        go_wp2_with fail
        go_ret
        exact ⟨by rw [EM.out]; rfl, BA.out⟩
    · have EM : Aside0 (valM l ⟨x0, x1, x2⟩ ⟨x0, y1, y2⟩ = false) := ⟨by simp [valM, h2]⟩
      have hlt : x0 < 1 := by omega
      clear h5
      go_enter Tryd.func56, Tryd.ntmps56
      go_wp2_with fail
      go_ret
      exact ⟨by rw [EM.out]; rfl, BA.out⟩
  · have EM : Aside0 (valM l ⟨x0, x1, x2⟩ ⟨y0, y1, y2⟩ = false) := ⟨by simp [valM, h1]⟩
    have e1 : (x0 != y0) = true := by simp [h1]
    clear h5
    go_enter Tryd.func56, Tryd.ntmps56
    go_wp2_with fail
    go_ret
    exact ⟨by rw [EM.out]; rfl, BA.out⟩
set_option maxRecDepth 100000 in
set_option maxHeartbeats 4000000 in
theorem sval_calls (l : List S62) (hc : Clo l) (cb : Nat) (a b : S74) (w : World) (hctx : Ctx l cb w) (hll : (flat l).length ≤ 1048576) :
    Calls Tryd.prog 56 #[.pointer (some ⟨cb, 0, none⟩), .agg #[.int .i64 a.f0, .bool a.f1, .int .i64 a.f2], .agg #[.int .i64 b.f0, .bool b.f1, .int .i64 b.f2]] w fun e w' => e = .returned (.bool (valM l a b)) ∧ Below w.heap.size w w' := by
  by_cases h5 : a.f0 = 5 ∧ b.f0 = 5
  rotate_left
  · exact sval_plain _ l a b w h5
  obtain ⟨x0, x1, x2⟩ := a
  obtain ⟨y0, y1, y2⟩ := b
  dsimp only at h5 ⊢
  obtain ⟨rfl, rfl⟩ := h5
  have ba : Below w.heap.size w ((w.alloc (.cells #[.int .i64 5, .bool x1, .int .i64 x2] 74)).alloc (.cells #[.int .i64 5, .bool y1, .int .i64 y2] 74)) := ((Below.refl _ _).alloc (Nat.le_refl _) _).alloc (by simp) _
  have BA := Aside0.mk ba
  have K := sheap_calls l hc cb x2 y2 _ (hctx.below ba) hll
  obtain ⟨h, hh⟩ : ∃ h, h = heapM l x2 y2 := ⟨_, rfl⟩
  have EM : Aside0 (valM l ⟨5, x1, x2⟩ ⟨5, y1, y2⟩ = (h && (!x1 || y1))) := ⟨by rw [hh]; simp [valM]⟩
  rw [← hh] at K
  clear hctx hc hll ba hh
  go_enter Tryd.func56, Tryd.ntmps56
  go_wp2_with fail
  refine K.mono ?_
  rintro e w1 ⟨rfl, hb⟩
  have B1 : Aside0 (Below w.heap.size w w1) := ⟨BA.out.trans (hb.mono BA.out.size)⟩
  have q0 := blk_below (blk_alloc (blk_new w (.cells #[.int .i64 5, .bool x1, .int .i64 x2] 74)) (.cells #[.int .i64 5, .bool y1, .int .i64 y2] 74)) hb
  have q1 : w1.heap[w.heap.size + 1]? = some (.cells #[.int .i64 5, .bool y1, .int .i64 y2] 74 (0, 0)) := by have h_ := blk_below (blk_new (w.alloc (.cells #[.int .i64 5, .bool x1, .int .i64 x2] 74)) (.cells #[.int .i64 5, .bool y1, .int .i64 y2] 74)) hb; rw [World.size_alloc] at h_; exact h_
  have z0 : w1.cell? ⟨w.heap.size, 1, none⟩ = some (.bool x1) := (blk_cell q0 1).trans rfl
  have z1 : w1.cell? ⟨w.heap.size + 1, 1, none⟩ = some (.bool y1) := (blk_cell q1 1).trans rfl
  clear hb K q0 q1
  cases h <;> cases x1 <;> cases y1 <;>
    (go_wp2_with fail
     go_ret
     exact ⟨by rw [EM.out]; rfl, B1.out⟩)
set_option maxRecDepth 100000 in
set_option maxHeartbeats 4000000 in
theorem SVal_yes (A : Option Addr) (c : Nat) (l : List S62) (a b : S74) (w : World) (hl : LA w A c l) (hc : Clo l) (htab : Lib.TabBelow Tryd.prog w.heap.size w "internal/strconv.uint64pow10" .u64 Lib.pow10Tab) :
    Calls Tryd.prog 33 #[.slice A l.length c, .agg #[.int .i64 a.f0, .bool a.f1, .int .i64 a.f2], .agg #[.int .i64 b.f0, .bool b.f1, .int .i64 b.f2]] w fun e w' => e = .returned (.bool (valM l a b)) ∧ Below w.heap.size w w' := by
  have ba : Below w.heap.size w ((w.alloc (.cells #[.int .i64 a.f0, .bool a.f1, .int .i64 a.f2] 74)).alloc (.cells #[.int .i64 b.f0, .bool b.f1, .int .i64 b.f2] 74)) := ((Below.refl _ _).alloc (Nat.le_refl _) _).alloc (by simp) _
  have BA := Aside0.mk ba
  by_cases h5 : a.f0 = 5 ∧ b.f0 = 5
  rotate_left
  · have K := sval_plain none l a b ((w.alloc (.cells #[.int .i64 a.f0, .bool a.f1, .int .i64 a.f2] 74)).alloc (.cells #[.int .i64 b.f0, .bool b.f1, .int .i64 b.f2] 74)) h5
    clear hl hc htab ba
    by_cases ha5 : a.f0 = 5
    · have e1 : (a.f0 != 5) = false := by simp [ha5]
      have e2 : (b.f0 != 5) = true := by simp; exact fun h => h5 ⟨ha5, h⟩
      clear h5 ha5
      go_enter Tryd.func33, Tryd.ntmps33
      go_wp2_with fail
      refine K.mono ?_
      rintro e w1 ⟨rfl, hb⟩
      have B1 : Aside0 (Below w.heap.size w w1) := ⟨BA.out.trans (hb.mono BA.out.size)⟩
      clear hb K
      go_wp2_with fail
      go_ret
      exact ⟨rfl, B1.out⟩
    · have e1 : (a.f0 != 5) = true := by simp [ha5]
      clear h5 ha5
      go_enter Tryd.func33, Tryd.ntmps33
      go_wp2_with fail
      refine K.mono ?_
      rintro e w1 ⟨rfl, hb⟩
      have B1 : Aside0 (Below w.heap.size w w1) := ⟨BA.out.trans (hb.mono BA.out.size)⟩
      clear hb K
      go_wp2_with fail
      go_ret
      exact ⟨rfl, B1.out⟩
  have K := opened_calls A c l ((w.alloc (.cells #[.int .i64 a.f0, .bool a.f1, .int .i64 a.f2] 74)).alloc (.cells #[.int .i64 b.f0, .bool b.f1, .int .i64 b.f2] 74)) (hl.below ba) (tab_mono (htab.on ba) ba.size)
  have HC := Aside0.mk hc
  have HF := Aside0.mk hl.flat_le
  have es : ((w.alloc (.cells #[.int .i64 a.f0, .bool a.f1, .int .i64 a.f2] 74)).alloc (.cells #[.int .i64 b.f0, .bool b.f1, .int .i64 b.f2] 74)).heap.size = w.heap.size + 1 + 1 := by simp
  have HE := Aside0.mk es
  clear es
  have e1 : (a.f0 != 5) = false := by simp [h5.1]
  have e2 : (b.f0 != 5) = false := by simp [h5.2]
  clear hl hc htab ba h5
  go_enter Tryd.func33, Tryd.ntmps33
  go_wp2_with fail
  refine K.mono ?_
  rintro e w1 ⟨hb, ⟨_, rfl, hx⟩ | ⟨hn, _⟩⟩
  rotate_left
  · exact absurd HC.out hn
  have B1 : Aside0 (Below w.heap.size w w1) := ⟨BA.out.trans (hb.mono BA.out.size)⟩
  rw [HE.out] at hx ⊢
  have X1 := Aside0.mk hx
  have q0 := blk_below (blk_alloc (blk_new w (.cells #[.int .i64 a.f0, .bool a.f1, .int .i64 a.f2] 74)) (.cells #[.int .i64 b.f0, .bool b.f1, .int .i64 b.f2] 74)) hb
  have q1 : w1.heap[w.heap.size + 1]? = some (.cells #[.int .i64 b.f0, .bool b.f1, .int .i64 b.f2] 74 (0, 0)) := by have h_ := blk_below (blk_new (w.alloc (.cells #[.int .i64 a.f0, .bool a.f1, .int .i64 a.f2] 74)) (.cells #[.int .i64 b.f0, .bool b.f1, .int .i64 b.f2] 74)) hb; rw [World.size_alloc] at h_; exact h_
  have z00 : w1.cell? ⟨w.heap.size, 0, none⟩ = some (.int .i64 a.f0) := (blk_cell q0 0).trans rfl
  have z01 : w1.cell? ⟨w.heap.size, 1, none⟩ = some (.bool a.f1) := (blk_cell q0 1).trans rfl
  have z02 : w1.cell? ⟨w.heap.size, 2, none⟩ = some (.int .i64 a.f2) := (blk_cell q0 2).trans rfl
  have z10 : w1.cell? ⟨w.heap.size + 1, 0, none⟩ = some (.int .i64 b.f0) := (blk_cell q1 0).trans rfl
  have z11 : w1.cell? ⟨w.heap.size + 1, 1, none⟩ = some (.bool b.f1) := (blk_cell q1 1).trans rfl
  have z12 : w1.cell? ⟨w.heap.size + 1, 2, none⟩ = some (.int .i64 b.f2) := (blk_cell q1 2).trans rfl
  clear hb hx K q0 q1
  go_wp2_with fail
  refine (sval_calls l HC.out (w.heap.size + 1 + 1) a b w1 X1.out HF.out).mono ?_
  rintro e w2 ⟨rfl, hb⟩
  have B2 := Aside0.mk (B1.out.trans (hb.mono B1.out.size))
  clear hb
  go_wp2_with fail
  go_ret
  exact ⟨rfl, B2.out⟩
end Go.Proofs.YtfgglniigeagdaaDoor.Cn
namespace Go.Proofs.YtfgglniigeagdaaDoor.Cn
set_option linter.unusedSimpArgs false
set_option linter.unusedVariables false
open Go.RowKit Go.Maps Go.Proofs.YtfgglniigeagdaaDoorW.PrintWords Go.Proofs.YtfgglniigeagdaaDoorW.PrintLast Go.Proofs.YtfgglniigeagdaaDoorW.PrintMore Go.Proofs.YtfgglniigeagdaaDoor.QD
/-- All declarations are valid. -/
def Valid (l : List S62) : Prop := ∀ m : Int, 0 ≤ m → m < ((flat l).length : Int) → declM l m = 0
theorem declM_up {l : List S62} {x o : Int} {t : List Int} (h : declM l x = 0) (hz : (tyAt l x).f1 = o :: t) : t = [] ∧ (tyAt l o).f0 = false ∧ depthM l o < 63 ∧ compM l (tyAt l x).f2 (tyAt l o).f2 = true := by
  unfold declM at h
  by_cases h1 : ∃ h ∈ (tyAt l x).f1, x ≤ h
  · rw [if_pos h1] at h; omega
  rw [if_neg h1] at h
  by_cases h2 : 1 < (tyAt l x).f1.length
  · rw [if_pos h2] at h; omega
  rw [if_neg h2, hz] at h
  dsimp only at h
  rw [hz] at h2
  have ht : t = [] := by cases t with | nil => rfl | cons u t => exact absurd (by simp) h2
  by_cases h3 : (tyAt l o).f0 = true
  · rw [if_pos h3] at h; omega
  rw [if_neg h3] at h
  by_cases h4 : 63 ≤ depthM l o
  · rw [if_pos h4] at h; omega
  rw [if_neg h4] at h
  by_cases h5 : compM l (tyAt l x).f2 (tyAt l o).f2 = true
  · exact ⟨ht, by simpa using h3, by omega, h5⟩
  · rw [if_neg h5] at h; omega
theorem compM_kind {l : List S62} {a b : S51} (h : compM l a b = true) : a.f0 = b.f0 := by
  unfold compM at h
  rw [Bool.and_eq_true] at h
  exact of_decide_eq_true h.1
theorem kind_up {l : List S62} {x o : Int} {t : List Int} (h : declM l x = 0) (hz : (tyAt l x).f1 = o :: t) : kindOf l o = kindOf l x := by
  unfold kindOf
  rw [compM_kind (declM_up h hz).2.2.2]
theorem kind_same {l : List S62} (hc : Clo l) (ht : tcount l ≤ 1048576) {x y : Int} (x0 : 0 ≤ x) (x1 : x < ((flat l).length : Int)) (y0 : 0 ≤ y) (y1 : y < ((flat l).length : Int)) (hs : SameT l x.toNat y.toNat) : kindOf l x = kindOf l y := by
  have hfl := flat_length l
  obtain ⟨Ix, Iy, _, _, hm, _⟩ := same_parts hc ht (x := x.toNat) (y := y.toNat) (by omega) (by omega) hs
  rw [Int.toNat_of_nonneg x0, Int.toNat_of_nonneg y0] at hm
  have h := congrArg (fun s : S53 => s.f2.f0) hm
  simp only [mroll_eq] at h
  unfold kindOf
  rw [h]
theorem ch_kind {l : List S62} (hc : Clo l) (hv : Valid l) : ∀ (k : Nat) (x : Int), 0 ≤ x → x < ((flat l).length : Int) → x < k → ∀ y ∈ ch l x, kindOf l y = kindOf l x := by
  intro k
  induction k with
  | zero => intro x h0 _ h; omega
  | succ k ih =>
    intro x h0 h1 hk y hy
    rcases hz : (tyAt l x).f1 with _ | ⟨z, t⟩
    · rw [ch_end hz] at hy
      rw [List.mem_singleton.1 hy]
    · obtain ⟨e, z0, zx⟩ := ch_on hc (down_of hv) h0 h1 hz
      rw [e] at hy
      rcases List.mem_cons.1 hy with rfl | hy
      · rfl
      · rw [ih z z0 (by omega) (by omega) y hy, kind_up (hv x h0 h1) hz]
theorem ch_sub {l : List S62} (hc : Clo l) (hd : Down l ((flat l).length : Int)) : ∀ (k : Nat) (a : Int), 0 ≤ a → a < ((flat l).length : Int) → a < k → ∀ x ∈ ch l a, ∀ z ∈ ch l x, z ∈ ch l a := by
  intro k
  induction k with
  | zero => intro x h0 _ h; omega
  | succ k ih =>
    intro a h0 h1 hk x hx z hz'
    rcases hz : (tyAt l a).f1 with _ | ⟨y, t⟩
    · rw [ch_end hz] at hx
      rw [List.mem_singleton.1 hx] at hz'
      exact hz'
    · obtain ⟨e, y0, ya⟩ := ch_on hc hd h0 h1 hz
      rw [e] at hx
      rcases List.mem_cons.1 hx with rfl | hx
      · exact hz'
      · rw [e]
        exact List.mem_cons_of_mem _ (ih y y0 (by omega) (by omega) x hx z hz')
theorem ch_lift {l : List S62} (hc : Clo l) (ht : tcount l ≤ 1048576) (hd : Down l ((flat l).length : Int)) : ∀ (k : Nat) (x b : Int), 0 ≤ x → x < ((flat l).length : Int) → 0 ≤ b → b < ((flat l).length : Int) → x < k → SameT l x.toNat b.toNat → ∀ y ∈ ch l b, ∃ z ∈ ch l x, SameT l z.toNat y.toNat := by
  intro k
  induction k with
  | zero => intro x b h0 _ _ _ h; omega
  | succ k ih =>
    intro x b x0 x1 b0 b1 hk hs y hy
    have hfl := flat_length l
    have h := same_supers hc ht (x := x.toNat) (y := b.toNat) (by omega) (by omega) hs
    rw [Int.toNat_of_nonneg x0, Int.toNat_of_nonneg b0] at h
    rcases h with ⟨h1, h2⟩ | ⟨p, t, q, u, h1, h2, h3⟩
    · rw [ch_end h2] at hy
      rw [List.mem_singleton.1 hy]
      exact ⟨x, ch_self x, hs⟩
    · obtain ⟨e1, p0, px⟩ := ch_on hc hd x0 x1 h1
      obtain ⟨e2, q0, qb⟩ := ch_on hc hd b0 b1 h2
      rw [e2] at hy
      rcases List.mem_cons.1 hy with rfl | hy
      · exact ⟨x, ch_self x, hs⟩
      · obtain ⟨z, hz, hzs⟩ := ih p q p0 (by omega) q0 (by omega) (by omega) h3 y hy
        exact ⟨z, by rw [e1]; exact List.mem_cons_of_mem _ hz, hzs⟩
theorem absM_table : ∀ i j k : Fin 12, absM (-(i.val : Int) - 1) (-(j.val : Int) - 1) = true → absM (-(j.val : Int) - 1) (-(k.val : Int) - 1) = true → absM (-(i.val : Int) - 1) (-(k.val : Int) - 1) = true := by decide +kernel
theorem absM_trans {a b c : Int} (a0 : -12 ≤ a) (a1 : a < 0) (b0 : -12 ≤ b) (b1 : b < 0) (c0 : -12 ≤ c) (c1 : c < 0) (h1 : absM a b = true) (h2 : absM b c = true) : absM a c = true := by
  have h := absM_table ⟨(-a - 1).toNat, by omega⟩ ⟨(-b - 1).toNat, by omega⟩ ⟨(-c - 1).toNat, by omega⟩
  dsimp only at h
  have ea : -(((-a - 1).toNat : Nat) : Int) - 1 = a := by omega
  have eb : -(((-b - 1).toNat : Nat) : Int) - 1 = b := by omega
  have ec : -(((-c - 1).toNat : Nat) : Int) - 1 = c := by omega
  rw [ea, eb, ec] at h
  exact h h1 h2
theorem absM_refl {a : Int} : absM a a = true := by
  unfold absM
  by_cases h : a = -10
  · rw [if_pos h]; simp [h]
  · rw [if_neg h]; simp [absL]
theorem heapM_refl {l : List S62} (hc : Clo l) (ht : tcount l ≤ 1048576) {a : Int} (ha : isM l a = true) : heapM l a a = true := by
  obtain ⟨a0, a1⟩ := isM_bounds ha
  have hfl := flat_length l
  rw [heapM_eq ha ha]
  by_cases na : a < 0
  · rw [if_pos na, if_pos na]; exact absM_refl
  · rw [if_neg na, if_neg na, rows_iff (by omega)]
    exact ⟨a, ch_self a, SameT.refl hc ht (by omega)⟩
theorem heapM_is {l : List S62} {a b : Int} (h : heapM l a b = true) : isM l a = true ∧ isM l b = true := by
  by_cases hh : isM l a = true ∧ isM l b = true
  · exact hh
  · rw [heapM_no hh] at h; cases h
theorem heapM_trans {l : List S62} (hc : Clo l) (ht : tcount l ≤ 1048576) (hv : Valid l) {a b c : Int} (h1 : heapM l a b = true) (h2 : heapM l b c = true) : heapM l a c = true := by
  obtain ⟨ha, hb⟩ := heapM_is h1
  obtain ⟨_, hcc⟩ := heapM_is h2
  obtain ⟨a0, a1⟩ := isM_bounds ha
  obtain ⟨b0, b1⟩ := isM_bounds hb
  obtain ⟨c0, c1⟩ := isM_bounds hcc
  have hd := down_of hv
  have hfl := flat_length l
  have kin : ∀ x : Int, kindOf l x = -1 ∨ kindOf l x = -8 ∨ kindOf l x = -9 := fun x => kindM_in _
  rw [heapM_eq ha hb] at h1
  rw [heapM_eq hb hcc] at h2
  rw [heapM_eq ha hcc]
  by_cases na : a < 0
  · rw [if_pos na] at h1 ⊢
    by_cases nb : b < 0
    · rw [if_pos nb] at h1 h2
      by_cases nc : c < 0
      · rw [if_pos nc] at h2 ⊢
        exact absM_trans a0 na b0 nb c0 nc h1 h2
      · rw [if_neg nc] at h2 ⊢
        simp only [Bool.or_eq_true, Bool.and_eq_true, decide_eq_true_eq] at h2 ⊢
        rcases h2 with ⟨rfl, h3⟩ | ⟨rfl, h3⟩
        · have e : a = -10 := by
            rcases abs_cases a0 (by omega) with rfl | rfl | rfl | rfl | rfl | rfl | rfl | rfl | rfl | rfl | rfl | rfl | rfl <;> first | rfl | omega | (revert h1; decide)
          exact .inl ⟨e, h3⟩
        · have e : a = -2 := by
            rcases abs_cases a0 (by omega) with rfl | rfl | rfl | rfl | rfl | rfl | rfl | rfl | rfl | rfl | rfl | rfl | rfl <;> first | rfl | omega | (revert h1; decide)
          exact .inr ⟨e, h3⟩
    · rw [if_neg nb] at h1 h2
      simp only [Bool.or_eq_true, Bool.and_eq_true, decide_eq_true_eq] at h1
      by_cases nc : c < 0
      · rw [if_pos nc] at h2 ⊢
        refine absM_trans a0 na (b := kindOf l b) (by have := kin b; omega) (by have := kin b; omega) c0 nc ?_ h2
        rcases h1 with ⟨rfl, h3⟩ | ⟨rfl, h3⟩
        · rcases kin b with h | h | h
          · exact absurd h h3
          · rw [h]; decide
          · rw [h]; decide
        · rw [h3]; decide
      · rw [if_neg nc] at h2 ⊢
        rw [rows_iff (by omega)] at h2
        obtain ⟨y, hy, hs⟩ := h2
        have hm := ch_mem hc hd (b.toNat + 1) b (by omega) b1 (by omega) y hy
        have hk : kindOf l c = kindOf l b := by
          rw [← ch_kind hc hv (b.toNat + 1) b (by omega) b1 (by omega) y hy]
          exact (kind_same hc ht hm.1.1 (by omega) (by omega) c1 hs).symm
        simp only [Bool.or_eq_true, Bool.and_eq_true, decide_eq_true_eq]
        rw [hk]
        exact h1
  · rw [if_neg na] at h1 ⊢
    by_cases nb : b < 0
    · rw [if_pos nb] at h1 h2
      by_cases nc : c < 0
      · rw [if_pos nc] at h2 ⊢
        exact absM_trans (by have := kin a; omega) (by have := kin a; omega) b0 nb c0 nc h1 h2
      · exfalso
        rw [if_neg nc] at h2
        simp only [Bool.or_eq_true, Bool.and_eq_true, decide_eq_true_eq] at h2
        rcases h2 with ⟨rfl, _⟩ | ⟨rfl, _⟩
        · rcases kin a with h | h | h <;> rw [h] at h1 <;> revert h1 <;> decide
        · rcases kin a with h | h | h <;> rw [h] at h1 <;> revert h1 <;> decide
    · rw [if_neg nb] at h1 h2
      rw [rows_iff (by omega)] at h1
      obtain ⟨x, hx, hsx⟩ := h1
      have hmx := ch_mem hc hd (a.toNat + 1) a (by omega) a1 (by omega) x hx
      by_cases nc : c < 0
      · rw [if_pos nc] at h2 ⊢
        have hk : kindOf l b = kindOf l a := by
          rw [← ch_kind hc hv (a.toNat + 1) a (by omega) a1 (by omega) x hx]
          exact (kind_same hc ht hmx.1.1 (by omega) (by omega) b1 hsx).symm
        rw [← hk]
        exact h2
      · rw [if_neg nc] at h2 ⊢
        rw [rows_iff (by omega)] at h2 ⊢
        obtain ⟨y, hy, hsy⟩ := h2
        have hmy := ch_mem hc hd (b.toNat + 1) b (by omega) b1 (by omega) y hy
        obtain ⟨z, hz, hsz⟩ := ch_lift hc ht hd (x.toNat + 1) x b hmx.1.1 (by omega) (by omega) b1 (by omega) hsx y hy
        have hmz := ch_mem hc hd (x.toNat + 1) x hmx.1.1 (by omega) (by omega) z hz
        exact ⟨z, ch_sub hc hd (a.toNat + 1) a (by omega) a1 (by omega) x hx z hz, SameT.trans hc ht (by omega) (by omega) (by omega) hsz hsy⟩
theorem valM_trans {l : List S62} (hc : Clo l) (ht : tcount l ≤ 1048576) (hv : Valid l) {a b c : S74} (h1 : valM l a b = true) (h2 : valM l b c = true) : valM l a c = true := by
  unfold valM at h1 h2 ⊢
  simp only [Bool.and_eq_true, Bool.or_eq_true, decide_eq_true_eq, Bool.not_eq_true'] at h1 h2 ⊢
  obtain ⟨⟨e1, r1, r2⟩, g1⟩ := h1
  obtain ⟨⟨e2, _, _⟩, g2⟩ := h2
  refine ⟨⟨e1.trans e2, r1, r2⟩, ?_⟩
  by_cases h5 : a.f0 = 5
  · rcases g1 with g1 | ⟨g1, n1⟩
    · exact absurd h5 g1
    rcases g2 with g2 | ⟨g2, n2⟩
    · exact absurd (by omega) g2
    refine .inr ⟨heapM_trans hc ht hv g1 g2, ?_⟩
    rcases n1 with n1 | n1
    · exact .inl n1
    · rcases n2 with n2 | n2
      · rw [n1] at n2; cases n2
      · exact .inr n2
  · exact .inl h5
theorem valM_refl {l : List S62} (hc : Clo l) (ht : tcount l ≤ 1048576) {a : S74} (h5 : a.f0 = 5) (h : isM l a.f2 = true) : valM l a a = true := by
  unfold valM
  rw [heapM_refl hc ht h, h5]
  cases a.f1 <;> simp
end Go.Proofs.YtfgglniigeagdaaDoor.Cn
namespace Go.Proofs.YtfgglniigeagdaaDoor.Cn
set_option linter.unusedSimpArgs false
set_option linter.unusedVariables false
open Go.RowKit Go.Maps Go.Proofs.YtfgglniigeagdaaDoorW.PrintWords Go.Proofs.YtfgglniigeagdaaDoorW.PrintLast Go.Proofs.YtfgglniigeagdaaDoorW.PrintMore Go.Proofs.YtfgglniigeagdaaDoor.QD
/-- The three boxes of SubLeads. -/
structure LB (w : World) (a b c : S74) (W : World) : Prop where
  q0 : W.heap[w.heap.size]? = some (.cells #[.int .i64 a.f0, .bool a.f1, .int .i64 a.f2] 74 (0, 0))
  q1 : W.heap[w.heap.size + 1]? = some (.cells #[.int .i64 b.f0, .bool b.f1, .int .i64 b.f2] 74 (0, 0))
  q2 : W.heap[w.heap.size + 1 + 1]? = some (.cells #[.int .i64 c.f0, .bool c.f1, .int .i64 c.f2] 74 (0, 0))
  bel : Below w.heap.size w W
theorem LB.below {w W W' : World} {a b c : S74} (h : LB w a b c W) (hb : Below W.heap.size W W') : LB w a b c W' := ⟨blk_below h.q0 hb, blk_below h.q1 hb, blk_below h.q2 hb, h.bel.trans (hb.mono h.bel.size)⟩
set_option maxRecDepth 100000 in
set_option maxHeartbeats 8000000 in
theorem subLeads_calls' (A : Option Addr) (cp : Nat) (l : List S62) (a b c : S74) (w : World) (hl : LA w A cp l) (htab : Lib.TabBelow Tryd.prog w.heap.size w "internal/strconv.uint64pow10" .u64 Lib.pow10Tab) :
    Calls Tryd.prog 8 #[.slice A l.length cp, .agg #[.int .i64 a.f0, .bool a.f1, .int .i64 a.f2], .agg #[.int .i64 b.f0, .bool b.f1, .int .i64 b.f2], .agg #[.int .i64 c.f0, .bool c.f1, .int .i64 c.f2]] w fun e w' => e = .returned (.bool true) ∧ Below w.heap.size w w' := by
  have HL := Aside0.mk hl
  have HT := Aside0.mk htab
  have htl : tcount l ≤ 1048576 := by have := hl.flat_le; rw [flat_length] at this; exact this
  have HTL := Aside0.mk htl
  have lb : LB w a b c (((w.alloc (.cells #[.int .i64 a.f0, .bool a.f1, .int .i64 a.f2] 74)).alloc (.cells #[.int .i64 b.f0, .bool b.f1, .int .i64 b.f2] 74)).alloc (.cells #[.int .i64 c.f0, .bool c.f1, .int .i64 c.f2] 74)) := ⟨blk_alloc (blk_alloc (blk_new w _) _) _, by have h := blk_alloc (blk_new (w.alloc (.cells #[.int .i64 a.f0, .bool a.f1, .int .i64 a.f2] 74)) (.cells #[.int .i64 b.f0, .bool b.f1, .int .i64 b.f2] 74)) (.cells #[.int .i64 c.f0, .bool c.f1, .int .i64 c.f2] 74); rw [World.size_alloc] at h; exact h, by have h := blk_new ((w.alloc (.cells #[.int .i64 a.f0, .bool a.f1, .int .i64 a.f2] 74)).alloc (.cells #[.int .i64 b.f0, .bool b.f1, .int .i64 b.f2] 74)) (.cells #[.int .i64 c.f0, .bool c.f1, .int .i64 c.f2] 74); rw [World.size_alloc, World.size_alloc] at h; exact h, (((Below.refl _ _).alloc (Nat.le_refl _) _).alloc (by simp) _).alloc (by simp; omega) _⟩
  have K := closed_ref A cp l _ (hl.below lb.bel)
  have L0 := Aside0.mk lb
  clear hl htab htl lb
  go_enter Tryd.func8, Tryd.ntmps8
  go_wp2_with fail
  refine K.mono ?_
  rintro e w1 ⟨⟨n1, e1, rfl, ho⟩, hb⟩
  have L1 := Aside0.mk (L0.out.below hb)
  clear hb K L0
  by_cases hc : Clo l
  rotate_left
  · obtain rfl := ho.no hc
    clear ho hc
    go_wp2_with fail
    refine (awake_calls w1 (tab_mono (HT.out.on L1.out.bel) L1.out.bel.size)).mono ?_
    rintro e w2 ⟨rfl, hb⟩
    have B2 := Aside0.mk (L1.out.below hb)
    clear hb
    go_wp2_with fail
    go_ret
    exact ⟨rfl, B2.out.bel⟩
  obtain ⟨rfl, rfl⟩ := ho.yes hc
  have HC := Aside0.mk hc
  clear ho hc
  go_wp2_with fail
  refine (r7Decl_yes A cp l w1 (HL.out.below L1.out.bel) HC.out).mono ?_
  rintro e w2 ⟨n2, e2, rfl, hd, hb⟩
  have L2 := Aside0.mk (L1.out.below hb)
  have HD := Aside0.mk hd
  clear hb hd L1
  by_cases he : e2 = 0
  rotate_left
  · have hne : (e2 == 0) = false := by simp [he]
    go_wp2_with fail
    refine (r5Count_calls A cp l w2 (HL.out.below L2.out.bel)).mono ?_
    rintro e w8 ⟨rfl, hb⟩
    have L8 := Aside0.mk (L2.out.below hb)
    clear hb
    obtain ⟨m, hm⟩ : ∃ m, m = (flat l).length := ⟨_, rfl⟩
    rw [← hm]
    have HM := Aside0.mk hm
    clear hm
    have z00 : w8.cell? ⟨w.heap.size, 0, none⟩ = some (.int .i64 a.f0) := (blk_cell L8.out.q0 0).trans rfl
    have z01 : w8.cell? ⟨w.heap.size, 1, none⟩ = some (.bool a.f1) := (blk_cell L8.out.q0 1).trans rfl
    have z02 : w8.cell? ⟨w.heap.size, 2, none⟩ = some (.int .i64 a.f2) := (blk_cell L8.out.q0 2).trans rfl
    have z10 : w8.cell? ⟨w.heap.size + 1, 0, none⟩ = some (.int .i64 b.f0) := (blk_cell L8.out.q1 0).trans rfl
    have z11 : w8.cell? ⟨w.heap.size + 1, 1, none⟩ = some (.bool b.f1) := (blk_cell L8.out.q1 1).trans rfl
    have z12 : w8.cell? ⟨w.heap.size + 1, 2, none⟩ = some (.int .i64 b.f2) := (blk_cell L8.out.q1 2).trans rfl
    have z20 : w8.cell? ⟨w.heap.size + 1 + 1, 0, none⟩ = some (.int .i64 c.f0) := (blk_cell L8.out.q2 0).trans rfl
    have z21 : w8.cell? ⟨w.heap.size + 1 + 1, 1, none⟩ = some (.bool c.f1) := (blk_cell L8.out.q2 1).trans rfl
    have z22 : w8.cell? ⟨w.heap.size + 1 + 1, 2, none⟩ = some (.int .i64 c.f2) := (blk_cell L8.out.q2 2).trans rfl
    have AW := awake_calls w8 (tab_mono (HT.out.on L8.out.bel) L8.out.bel.size)
    by_cases h5 : a.f0 = 5
    rotate_left
    · have h5' : (a.f0 == 5) = false := by simp [h5]
      go_wp2_with fail
      refine AW.mono ?_
      rintro e w9 ⟨rfl, hb⟩
      have L9 := Aside0.mk (L8.out.below hb)
      clear hb AW
      go_wp2_with fail
      go_ret
      exact ⟨rfl, L9.out.bel⟩
    have h5' : (a.f0 == 5) = true := by simp [h5]
    by_cases h12 : -12 ≤ a.f2
    rotate_left
    · go_wp2_with fail
      refine AW.mono ?_
      rintro e w9 ⟨rfl, hb⟩
      have L9 := Aside0.mk (L8.out.below hb)
      clear hb AW
      go_wp2_with fail
      go_ret
      exact ⟨rfl, L9.out.bel⟩
    by_cases hlt : a.f2 < (m : Int)
    rotate_left
    · go_wp2_with fail
      refine AW.mono ?_
      rintro e w9 ⟨rfl, hb⟩
      have L9 := Aside0.mk (L8.out.below hb)
      clear hb AW
      go_wp2_with fail
      go_ret
      exact ⟨rfl, L9.out.bel⟩
    have RF := valM_refl HC.out HTL.out h5 (by simp only [isM, Bool.and_eq_true, decide_eq_true_eq]; rw [← HM.out]; exact ⟨h12, hlt⟩)
    have KV := SVal_yes A cp l a a w8 (HL.out.below L8.out.bel) HC.out (tab_mono (HT.out.on L8.out.bel) L8.out.bel.size)
    rw [RF] at KV
    clear AW RF h5
    go_wp2_with fail
    refine KV.mono ?_
    rintro e w9 ⟨rfl, hb⟩
    have L9 := Aside0.mk (L8.out.below hb)
    clear hb KV
    clear z00 z01 z02 z10 z11 z12 z20 z21 z22
    go_wp2_with fail
    refine (awake_calls w9 (tab_mono (HT.out.on L9.out.bel) L9.out.bel.size)).mono ?_
    rintro e w10 ⟨rfl, hb⟩
    have L10 := Aside0.mk (L9.out.below hb)
    clear hb
    go_wp2_with fail
    go_ret
    exact ⟨rfl, L10.out.bel⟩
  subst he
  have VL : Aside0 (Valid l) := ⟨by
    rcases HD.out with ⟨_, _, h⟩ | ⟨_, _, _, h, _⟩
    · exact h
    · exact absurd rfl h⟩
  have z00 : w2.cell? ⟨w.heap.size, 0, none⟩ = some (.int .i64 a.f0) := (blk_cell L2.out.q0 0).trans rfl
  have z01 : w2.cell? ⟨w.heap.size, 1, none⟩ = some (.bool a.f1) := (blk_cell L2.out.q0 1).trans rfl
  have z02 : w2.cell? ⟨w.heap.size, 2, none⟩ = some (.int .i64 a.f2) := (blk_cell L2.out.q0 2).trans rfl
  have z10 : w2.cell? ⟨w.heap.size + 1, 0, none⟩ = some (.int .i64 b.f0) := (blk_cell L2.out.q1 0).trans rfl
  have z11 : w2.cell? ⟨w.heap.size + 1, 1, none⟩ = some (.bool b.f1) := (blk_cell L2.out.q1 1).trans rfl
  have z12 : w2.cell? ⟨w.heap.size + 1, 2, none⟩ = some (.int .i64 b.f2) := (blk_cell L2.out.q1 2).trans rfl
  have z20 : w2.cell? ⟨w.heap.size + 1 + 1, 0, none⟩ = some (.int .i64 c.f0) := (blk_cell L2.out.q2 0).trans rfl
  have z21 : w2.cell? ⟨w.heap.size + 1 + 1, 1, none⟩ = some (.bool c.f1) := (blk_cell L2.out.q2 1).trans rfl
  have z22 : w2.cell? ⟨w.heap.size + 1 + 1, 2, none⟩ = some (.int .i64 c.f2) := (blk_cell L2.out.q2 2).trans rfl
  have KV := SVal_yes A cp l a b w2 (HL.out.below L2.out.bel) HC.out (tab_mono (HT.out.on L2.out.bel) L2.out.bel.size)
  go_wp2_with fail
  refine KV.mono ?_
  rintro e w3 ⟨rfl, hb⟩
  have L3 := Aside0.mk (L2.out.below hb)
  clear hb KV L2
  clear z00 z01 z02 z10 z11 z12 z20 z21 z22
  cases hv1 : valM l a b with
  | false =>
    go_wp2_with fail
    refine (r5Count_calls A cp l w3 (HL.out.below L3.out.bel)).mono ?_
    rintro e w8 ⟨rfl, hb⟩
    have L8 := Aside0.mk (L3.out.below hb)
    clear hb
    obtain ⟨m, hm⟩ : ∃ m, m = (flat l).length := ⟨_, rfl⟩
    rw [← hm]
    have HM := Aside0.mk hm
    clear hm
    have z00 : w8.cell? ⟨w.heap.size, 0, none⟩ = some (.int .i64 a.f0) := (blk_cell L8.out.q0 0).trans rfl
    have z01 : w8.cell? ⟨w.heap.size, 1, none⟩ = some (.bool a.f1) := (blk_cell L8.out.q0 1).trans rfl
    have z02 : w8.cell? ⟨w.heap.size, 2, none⟩ = some (.int .i64 a.f2) := (blk_cell L8.out.q0 2).trans rfl
    have z10 : w8.cell? ⟨w.heap.size + 1, 0, none⟩ = some (.int .i64 b.f0) := (blk_cell L8.out.q1 0).trans rfl
    have z11 : w8.cell? ⟨w.heap.size + 1, 1, none⟩ = some (.bool b.f1) := (blk_cell L8.out.q1 1).trans rfl
    have z12 : w8.cell? ⟨w.heap.size + 1, 2, none⟩ = some (.int .i64 b.f2) := (blk_cell L8.out.q1 2).trans rfl
    have z20 : w8.cell? ⟨w.heap.size + 1 + 1, 0, none⟩ = some (.int .i64 c.f0) := (blk_cell L8.out.q2 0).trans rfl
    have z21 : w8.cell? ⟨w.heap.size + 1 + 1, 1, none⟩ = some (.bool c.f1) := (blk_cell L8.out.q2 1).trans rfl
    have z22 : w8.cell? ⟨w.heap.size + 1 + 1, 2, none⟩ = some (.int .i64 c.f2) := (blk_cell L8.out.q2 2).trans rfl
    have AW := awake_calls w8 (tab_mono (HT.out.on L8.out.bel) L8.out.bel.size)
    by_cases h5 : a.f0 = 5
    rotate_left
    · have h5' : (a.f0 == 5) = false := by simp [h5]
      go_wp2_with fail
      refine AW.mono ?_
      rintro e w9 ⟨rfl, hb⟩
      have L9 := Aside0.mk (L8.out.below hb)
      clear hb AW
      go_wp2_with fail
      go_ret
      exact ⟨rfl, L9.out.bel⟩
    have h5' : (a.f0 == 5) = true := by simp [h5]
    by_cases h12 : -12 ≤ a.f2
    rotate_left
    · go_wp2_with fail
      refine AW.mono ?_
      rintro e w9 ⟨rfl, hb⟩
      have L9 := Aside0.mk (L8.out.below hb)
      clear hb AW
      go_wp2_with fail
      go_ret
      exact ⟨rfl, L9.out.bel⟩
    by_cases hlt : a.f2 < (m : Int)
    rotate_left
    · go_wp2_with fail
      refine AW.mono ?_
      rintro e w9 ⟨rfl, hb⟩
      have L9 := Aside0.mk (L8.out.below hb)
      clear hb AW
      go_wp2_with fail
      go_ret
      exact ⟨rfl, L9.out.bel⟩
    have RF := valM_refl HC.out HTL.out h5 (by simp only [isM, Bool.and_eq_true, decide_eq_true_eq]; rw [← HM.out]; exact ⟨h12, hlt⟩)
    have KV := SVal_yes A cp l a a w8 (HL.out.below L8.out.bel) HC.out (tab_mono (HT.out.on L8.out.bel) L8.out.bel.size)
    rw [RF] at KV
    clear AW RF h5
    go_wp2_with fail
    refine KV.mono ?_
    rintro e w9 ⟨rfl, hb⟩
    have L9 := Aside0.mk (L8.out.below hb)
    clear hb KV
    clear z00 z01 z02 z10 z11 z12 z20 z21 z22
    go_wp2_with fail
    refine (awake_calls w9 (tab_mono (HT.out.on L9.out.bel) L9.out.bel.size)).mono ?_
    rintro e w10 ⟨rfl, hb⟩
    have L10 := Aside0.mk (L9.out.below hb)
    clear hb
    go_wp2_with fail
    go_ret
    exact ⟨rfl, L10.out.bel⟩
  | true =>
    have V1 := Aside0.mk hv1
    clear hv1
    have z00 : w3.cell? ⟨w.heap.size, 0, none⟩ = some (.int .i64 a.f0) := (blk_cell L3.out.q0 0).trans rfl
    have z01 : w3.cell? ⟨w.heap.size, 1, none⟩ = some (.bool a.f1) := (blk_cell L3.out.q0 1).trans rfl
    have z02 : w3.cell? ⟨w.heap.size, 2, none⟩ = some (.int .i64 a.f2) := (blk_cell L3.out.q0 2).trans rfl
    have z10 : w3.cell? ⟨w.heap.size + 1, 0, none⟩ = some (.int .i64 b.f0) := (blk_cell L3.out.q1 0).trans rfl
    have z11 : w3.cell? ⟨w.heap.size + 1, 1, none⟩ = some (.bool b.f1) := (blk_cell L3.out.q1 1).trans rfl
    have z12 : w3.cell? ⟨w.heap.size + 1, 2, none⟩ = some (.int .i64 b.f2) := (blk_cell L3.out.q1 2).trans rfl
    have z20 : w3.cell? ⟨w.heap.size + 1 + 1, 0, none⟩ = some (.int .i64 c.f0) := (blk_cell L3.out.q2 0).trans rfl
    have z21 : w3.cell? ⟨w.heap.size + 1 + 1, 1, none⟩ = some (.bool c.f1) := (blk_cell L3.out.q2 1).trans rfl
    have z22 : w3.cell? ⟨w.heap.size + 1 + 1, 2, none⟩ = some (.int .i64 c.f2) := (blk_cell L3.out.q2 2).trans rfl
    have KV := SVal_yes A cp l b c w3 (HL.out.below L3.out.bel) HC.out (tab_mono (HT.out.on L3.out.bel) L3.out.bel.size)
    go_wp2_with fail
    refine KV.mono ?_
    rintro e w4 ⟨rfl, hb⟩
    have L4 := Aside0.mk (L3.out.below hb)
    clear hb KV L3
    clear z00 z01 z02 z10 z11 z12 z20 z21 z22
    cases hv2 : valM l b c with
    | false =>
      go_wp2_with fail
      refine (r5Count_calls A cp l w4 (HL.out.below L4.out.bel)).mono ?_
      rintro e w8 ⟨rfl, hb⟩
      have L8 := Aside0.mk (L4.out.below hb)
      clear hb
      obtain ⟨m, hm⟩ : ∃ m, m = (flat l).length := ⟨_, rfl⟩
      rw [← hm]
      have HM := Aside0.mk hm
      clear hm
      have z00 : w8.cell? ⟨w.heap.size, 0, none⟩ = some (.int .i64 a.f0) := (blk_cell L8.out.q0 0).trans rfl
      have z01 : w8.cell? ⟨w.heap.size, 1, none⟩ = some (.bool a.f1) := (blk_cell L8.out.q0 1).trans rfl
      have z02 : w8.cell? ⟨w.heap.size, 2, none⟩ = some (.int .i64 a.f2) := (blk_cell L8.out.q0 2).trans rfl
      have z10 : w8.cell? ⟨w.heap.size + 1, 0, none⟩ = some (.int .i64 b.f0) := (blk_cell L8.out.q1 0).trans rfl
      have z11 : w8.cell? ⟨w.heap.size + 1, 1, none⟩ = some (.bool b.f1) := (blk_cell L8.out.q1 1).trans rfl
      have z12 : w8.cell? ⟨w.heap.size + 1, 2, none⟩ = some (.int .i64 b.f2) := (blk_cell L8.out.q1 2).trans rfl
      have z20 : w8.cell? ⟨w.heap.size + 1 + 1, 0, none⟩ = some (.int .i64 c.f0) := (blk_cell L8.out.q2 0).trans rfl
      have z21 : w8.cell? ⟨w.heap.size + 1 + 1, 1, none⟩ = some (.bool c.f1) := (blk_cell L8.out.q2 1).trans rfl
      have z22 : w8.cell? ⟨w.heap.size + 1 + 1, 2, none⟩ = some (.int .i64 c.f2) := (blk_cell L8.out.q2 2).trans rfl
      have AW := awake_calls w8 (tab_mono (HT.out.on L8.out.bel) L8.out.bel.size)
      by_cases h5 : a.f0 = 5
      rotate_left
      · have h5' : (a.f0 == 5) = false := by simp [h5]
        go_wp2_with fail
        refine AW.mono ?_
        rintro e w9 ⟨rfl, hb⟩
        have L9 := Aside0.mk (L8.out.below hb)
        clear hb AW
        go_wp2_with fail
        go_ret
        exact ⟨rfl, L9.out.bel⟩
      have h5' : (a.f0 == 5) = true := by simp [h5]
      by_cases h12 : -12 ≤ a.f2
      rotate_left
      · go_wp2_with fail
        refine AW.mono ?_
        rintro e w9 ⟨rfl, hb⟩
        have L9 := Aside0.mk (L8.out.below hb)
        clear hb AW
        go_wp2_with fail
        go_ret
        exact ⟨rfl, L9.out.bel⟩
      by_cases hlt : a.f2 < (m : Int)
      rotate_left
      · go_wp2_with fail
        refine AW.mono ?_
        rintro e w9 ⟨rfl, hb⟩
        have L9 := Aside0.mk (L8.out.below hb)
        clear hb AW
        go_wp2_with fail
        go_ret
        exact ⟨rfl, L9.out.bel⟩
      have RF := valM_refl HC.out HTL.out h5 (by simp only [isM, Bool.and_eq_true, decide_eq_true_eq]; rw [← HM.out]; exact ⟨h12, hlt⟩)
      have KV := SVal_yes A cp l a a w8 (HL.out.below L8.out.bel) HC.out (tab_mono (HT.out.on L8.out.bel) L8.out.bel.size)
      rw [RF] at KV
      clear AW RF h5
      go_wp2_with fail
      refine KV.mono ?_
      rintro e w9 ⟨rfl, hb⟩
      have L9 := Aside0.mk (L8.out.below hb)
      clear hb KV
      clear z00 z01 z02 z10 z11 z12 z20 z21 z22
      go_wp2_with fail
      refine (awake_calls w9 (tab_mono (HT.out.on L9.out.bel) L9.out.bel.size)).mono ?_
      rintro e w10 ⟨rfl, hb⟩
      have L10 := Aside0.mk (L9.out.below hb)
      clear hb
      go_wp2_with fail
      go_ret
      exact ⟨rfl, L10.out.bel⟩
    | true =>
      have V3 := valM_trans HC.out HTL.out VL.out V1.out hv2
      clear hv2
      have z00 : w4.cell? ⟨w.heap.size, 0, none⟩ = some (.int .i64 a.f0) := (blk_cell L4.out.q0 0).trans rfl
      have z01 : w4.cell? ⟨w.heap.size, 1, none⟩ = some (.bool a.f1) := (blk_cell L4.out.q0 1).trans rfl
      have z02 : w4.cell? ⟨w.heap.size, 2, none⟩ = some (.int .i64 a.f2) := (blk_cell L4.out.q0 2).trans rfl
      have z10 : w4.cell? ⟨w.heap.size + 1, 0, none⟩ = some (.int .i64 b.f0) := (blk_cell L4.out.q1 0).trans rfl
      have z11 : w4.cell? ⟨w.heap.size + 1, 1, none⟩ = some (.bool b.f1) := (blk_cell L4.out.q1 1).trans rfl
      have z12 : w4.cell? ⟨w.heap.size + 1, 2, none⟩ = some (.int .i64 b.f2) := (blk_cell L4.out.q1 2).trans rfl
      have z20 : w4.cell? ⟨w.heap.size + 1 + 1, 0, none⟩ = some (.int .i64 c.f0) := (blk_cell L4.out.q2 0).trans rfl
      have z21 : w4.cell? ⟨w.heap.size + 1 + 1, 1, none⟩ = some (.bool c.f1) := (blk_cell L4.out.q2 1).trans rfl
      have z22 : w4.cell? ⟨w.heap.size + 1 + 1, 2, none⟩ = some (.int .i64 c.f2) := (blk_cell L4.out.q2 2).trans rfl
      have KV := SVal_yes A cp l a c w4 (HL.out.below L4.out.bel) HC.out (tab_mono (HT.out.on L4.out.bel) L4.out.bel.size)
      rw [V3] at KV
      clear V3
      go_wp2_with fail
      refine KV.mono ?_
      rintro e w5 ⟨rfl, hb⟩
      have L5 := Aside0.mk (L4.out.below hb)
      clear hb KV L4
      clear z00 z01 z02 z10 z11 z12 z20 z21 z22
      go_wp2_with fail
      refine (r5Count_calls A cp l w5 (HL.out.below L5.out.bel)).mono ?_
      rintro e w8 ⟨rfl, hb⟩
      have L8 := Aside0.mk (L5.out.below hb)
      clear hb
      obtain ⟨m, hm⟩ : ∃ m, m = (flat l).length := ⟨_, rfl⟩
      rw [← hm]
      have HM := Aside0.mk hm
      clear hm
      have z00 : w8.cell? ⟨w.heap.size, 0, none⟩ = some (.int .i64 a.f0) := (blk_cell L8.out.q0 0).trans rfl
      have z01 : w8.cell? ⟨w.heap.size, 1, none⟩ = some (.bool a.f1) := (blk_cell L8.out.q0 1).trans rfl
      have z02 : w8.cell? ⟨w.heap.size, 2, none⟩ = some (.int .i64 a.f2) := (blk_cell L8.out.q0 2).trans rfl
      have z10 : w8.cell? ⟨w.heap.size + 1, 0, none⟩ = some (.int .i64 b.f0) := (blk_cell L8.out.q1 0).trans rfl
      have z11 : w8.cell? ⟨w.heap.size + 1, 1, none⟩ = some (.bool b.f1) := (blk_cell L8.out.q1 1).trans rfl
      have z12 : w8.cell? ⟨w.heap.size + 1, 2, none⟩ = some (.int .i64 b.f2) := (blk_cell L8.out.q1 2).trans rfl
      have z20 : w8.cell? ⟨w.heap.size + 1 + 1, 0, none⟩ = some (.int .i64 c.f0) := (blk_cell L8.out.q2 0).trans rfl
      have z21 : w8.cell? ⟨w.heap.size + 1 + 1, 1, none⟩ = some (.bool c.f1) := (blk_cell L8.out.q2 1).trans rfl
      have z22 : w8.cell? ⟨w.heap.size + 1 + 1, 2, none⟩ = some (.int .i64 c.f2) := (blk_cell L8.out.q2 2).trans rfl
      have AW := awake_calls w8 (tab_mono (HT.out.on L8.out.bel) L8.out.bel.size)
      by_cases h5 : a.f0 = 5
      rotate_left
      · have h5' : (a.f0 == 5) = false := by simp [h5]
        go_wp2_with fail
        refine AW.mono ?_
        rintro e w9 ⟨rfl, hb⟩
        have L9 := Aside0.mk (L8.out.below hb)
        clear hb AW
        go_wp2_with fail
        go_ret
        exact ⟨rfl, L9.out.bel⟩
      have h5' : (a.f0 == 5) = true := by simp [h5]
      by_cases h12 : -12 ≤ a.f2
      rotate_left
      · go_wp2_with fail
        refine AW.mono ?_
        rintro e w9 ⟨rfl, hb⟩
        have L9 := Aside0.mk (L8.out.below hb)
        clear hb AW
        go_wp2_with fail
        go_ret
        exact ⟨rfl, L9.out.bel⟩
      by_cases hlt : a.f2 < (m : Int)
      rotate_left
      · go_wp2_with fail
        refine AW.mono ?_
        rintro e w9 ⟨rfl, hb⟩
        have L9 := Aside0.mk (L8.out.below hb)
        clear hb AW
        go_wp2_with fail
        go_ret
        exact ⟨rfl, L9.out.bel⟩
      have RF := valM_refl HC.out HTL.out h5 (by simp only [isM, Bool.and_eq_true, decide_eq_true_eq]; rw [← HM.out]; exact ⟨h12, hlt⟩)
      have KV := SVal_yes A cp l a a w8 (HL.out.below L8.out.bel) HC.out (tab_mono (HT.out.on L8.out.bel) L8.out.bel.size)
      rw [RF] at KV
      clear AW RF h5
      go_wp2_with fail
      refine KV.mono ?_
      rintro e w9 ⟨rfl, hb⟩
      have L9 := Aside0.mk (L8.out.below hb)
      clear hb KV
      clear z00 z01 z02 z10 z11 z12 z20 z21 z22
      go_wp2_with fail
      refine (awake_calls w9 (tab_mono (HT.out.on L9.out.bel) L9.out.bel.size)).mono ?_
      rintro e w10 ⟨rfl, hb⟩
      have L10 := Aside0.mk (L9.out.below hb)
      clear hb
      go_wp2_with fail
      go_ret
      exact ⟨rfl, L10.out.bel⟩
theorem subLeads_calls (A : Option Addr) (cp : Nat) (l : List S62) (a0 : Int) (a1 : Bool) (a2 : Int) (b0 : Int) (b1 : Bool) (b2 : Int) (c0 : Int) (c1 : Bool) (c2 : Int) (w : World) (hl : LA w A cp l) (_ : N64 a0 ∧ N64 a2) (_ : N64 b0 ∧ N64 b2) (_ : N64 c0 ∧ N64 c2) (htab : Lib.TabBelow Tryd.prog w.heap.size w "internal/strconv.uint64pow10" .u64 Lib.pow10Tab) :
    Calls Tryd.prog 8 #[.slice A l.length cp, .agg #[.int .i64 a0, .bool a1, .int .i64 a2], .agg #[.int .i64 b0, .bool b1, .int .i64 b2], .agg #[.int .i64 c0, .bool c1, .int .i64 c2]] w fun e w' => e = .returned (.bool true) ∧ Below w.heap.size w w' :=
  subLeads_calls' A cp l ⟨a0, a1, a2⟩ ⟨b0, b1, b2⟩ ⟨c0, c1, c2⟩ w hl htab
end Go.Proofs.YtfgglniigeagdaaDoor.Cn
