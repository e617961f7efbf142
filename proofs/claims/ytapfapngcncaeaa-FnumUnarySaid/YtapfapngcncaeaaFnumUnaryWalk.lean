/- The walk of ratchetlaw04.FnumUnary and its plain law. -/
import Derived.Test.YtapfapngcncaeaaUn2
namespace Go.Proofs.Ytapfapngcncaeaa.FnumUnaryWalk
open Ieee Go.RowKit Go.Proofs.Ytapfapngcncaeaa.Fl Go.Proofs.Ytapfapngcncaeaa.Ie Go.Proofs.Ytapfapngcncaeaa.QF Go.Proofs.Ytapfapngcncaeaa.Rf

theorem andNot_top (i : Nat) (hi : i < 64) (x : Nat) (h : x < 2 ^ (i + 1)) (_ : x < 18446744073709551616) : bits .andNot .u64 (x : Int) ((2 ^ i : Nat) : Int) = ((x % 2 ^ i : Nat) : Int) := by
  show IntKind.u64.wrap ((BitVec.ofInt 64 (x : Int) &&& ~~~BitVec.ofInt 64 ((2 ^ i : Nat) : Int)).toNat : Int) = _
  have e : (BitVec.ofInt 64 (x : Int) &&& ~~~BitVec.ofInt 64 ((2 ^ i : Nat) : Int)).toNat = x % 2 ^ i := by
    rw [BitVec.ofInt_natCast, BitVec.ofInt_natCast]
    apply Nat.eq_of_testBit_eq
    intro j
    rw [BitVec.testBit_toNat, BitVec.getLsbD_and, BitVec.getLsbD_not, BitVec.getLsbD_ofNat, BitVec.getLsbD_ofNat, Nat.testBit_mod_two_pow, Nat.testBit_two_pow]
    rcases Nat.lt_trichotomy j i with c | c | c
    · simp [c, show j < 64 by omega, show ¬ i = j by omega]
    · subst c; simp [hi]
    · rw [Nat.testBit_lt_two_pow (Nat.lt_of_lt_of_le h (Nat.pow_le_pow_right (by decide) c))]; simp
  rw [e, IntKind.wrap_u64]
  have := Nat.mod_le x (2 ^ i)
  omega
theorem andNot31 (x : Int) (h0 : 0 ≤ x) (h1 : x < 4294967296) : bits .andNot .u64 x 2147483648 = x % 2147483648 := by
  have h := andNot_top 31 (by decide) x.toNat (by omega) (by omega)
  rw [show ((x.toNat : Nat) : Int) = x by omega] at h
  refine Eq.trans h ?_
  omega
theorem andNot63 (x : Int) (h0 : 0 ≤ x) (h1 : x < 18446744073709551616) : bits .andNot .u64 x 9223372036854775808 = x % 9223372036854775808 := by
  have h := andNot_top 63 (by decide) x.toNat (by omega) (by omega)
  rw [show ((x.toNat : Nat) : Int) = x by omega] at h
  refine Eq.trans h ?_
  omega
theorem format_32 (k : Nat) (op : Int) (h0 : 139 ≤ op) (h1 : op < 146) : ratchetref04_format.f (k + 1) op 139 153 7 = some (23, 8, op - 139, true) := by
  unfold ratchetref04_format.f
  rw [if_pos h0]
  rw [ratchetref04_format.j0.eq_2]
  rw [show wrap64 (139 + 7) = 146 by kernel_rfl, if_pos (decide_eq_true h1), show ratchetref04_F32.f = some (23, 8) by kernel_rfl]
  simp only [Option.bind_some]
  rw [show wrap64 (op - 139) = op - 139 by unfold wrap64; omega]
theorem format_64 (k : Nat) (op : Int) (h0 : 153 ≤ op) (h1 : op < 160) : ratchetref04_format.f (k + 1) op 139 153 7 = some (52, 11, op - 153, true) := by
  unfold ratchetref04_format.f
  rw [if_pos (by omega)]
  rw [ratchetref04_format.j0.eq_2]
  rw [show wrap64 (139 + 7) = 146 by kernel_rfl, if_neg (by simp; omega), show ratchetref04_F64.f = some (52, 11) by kernel_rfl]
  simp only [Option.bind_some]
  rw [if_pos (by omega), show wrap64 (op - 153) = op - 153 by unfold wrap64; omega, show wrap64 (153 + 7) = 160 by kernel_rfl, decide_eq_true h1]
theorem format_no (k : Nat) (op : Int) (h : op < 139 ∨ (146 ≤ op ∧ op < 153) ∨ 160 ≤ op) : ∃ p, ratchetref04_format.f (k + 1) op 139 153 7 = some p ∧ p.2.2.2 = false := by
  unfold ratchetref04_format.f
  have hF : ratchetref04_F64.f = some (52, 11) := by kernel_rfl
  by_cases c : op ≥ 139
  · rw [if_pos c]
    rw [ratchetref04_format.j0.eq_2]
    rw [show wrap64 (139 + 7) = 146 by kernel_rfl, if_neg (by simp; omega), hF]
    simp only [Option.bind_some]
    by_cases d : op ≥ 153
    · rw [if_pos d]; refine ⟨_, rfl, ?_⟩
      rw [show wrap64 (153 + 7) = 160 by kernel_rfl]
      exact decide_eq_false (by omega)
    · rw [if_neg d]; exact ⟨_, rfl, rfl⟩
  · rw [if_neg c]
    rw [ratchetref04_format.j0.eq_2]
    rw [if_neg (by decide), hF]
    simp only [Option.bind_some]
    rw [if_neg (by omega)]; exact ⟨_, rfl, rfl⟩
theorem ref_no (k : Nat) (op a : Int) (h : op < 139 ∨ (146 ≤ op ∧ op < 153) ∨ 160 ≤ op) : ratchetref04_Unary.f (k + 1) op a = some (0, 1) := by
  unfold ratchetref04_Unary.f
  obtain ⟨p, h1, h2⟩ := format_no k op h
  rw [h1]
  simp only [Option.bind_some, h2, Bool.false_eq_true, if_false]

theorem ref_32 (k : Nat) (op a v : Int) (h0 : 139 ≤ op) (h1 : op < 146) (h : ratchetref04_Format_Unary.f (k + 1) 23 8 (op - 139) a = some v) : ratchetref04_Unary.f (k + 1) op a = some (v, 0) := by
  unfold ratchetref04_Unary.f
  rw [format_32 k op h0 h1]
  simp only [Option.bind_some, if_true, h]
theorem ref_64 (k : Nat) (op a v : Int) (h0 : 153 ≤ op) (h1 : op < 160) (h : ratchetref04_Format_Unary.f (k + 1) 52 11 (op - 153) a = some v) : ratchetref04_Unary.f (k + 1) op a = some (v, 0) := by
  unfold ratchetref04_Unary.f
  rw [format_64 k op h0 h1]
  simp only [Option.bind_some, if_true, h]

theorem mag_32 (k : Nat) (a : Int) (ha : 0 ≤ a) (ha2 : a < 18446744073709551616) : ratchetref04_Format_Unary.f (k + 1) 23 8 0 a = some (bits .andNot .u64 (a % 4294967296) 2147483648) := by
  unfold ratchetref04_Format_Unary.f
  rw [cut32 a ha ha2]
  simp only [Option.bind_some, if_true]
  rw [size32 _ (by omega) (by omega)]
  simp only [Option.bind_some]
  rw [andNot31 (a % 4294967296) (by omega) (by omega)]
theorem mag_64 (k : Nat) (a : Int) (ha : 0 ≤ a) (ha2 : a < 18446744073709551616) : ratchetref04_Format_Unary.f (k + 1) 52 11 0 a = some (bits .andNot .u64 a 9223372036854775808) := by
  unfold ratchetref04_Format_Unary.f
  rw [cut64 a]
  simp only [Option.bind_some, if_true]
  rw [size64 _ (by omega) (by omega)]
  simp only [Option.bind_some]
  rw [andNot63 a (by omega) (by omega)]
theorem minus_32 (k : Nat) (a : Int) (ha : 0 ≤ a) (ha2 : a < 18446744073709551616) : ratchetref04_Format_Unary.f (k + 1) 23 8 1 a = some (bits .xor .u64 (a % 4294967296) 2147483648) := by
  unfold ratchetref04_Format_Unary.f
  rw [cut32 a ha ha2]
  simp only [Option.bind_some]
  rw [if_neg (by decide), if_pos trivial, sign32]
  rfl
theorem minus_64 (k : Nat) (a : Int) : ratchetref04_Format_Unary.f (k + 1) 52 11 1 a = some (bits .xor .u64 a 9223372036854775808) := by
  unfold ratchetref04_Format_Unary.f
  rw [cut64 a]
  simp only [Option.bind_some]
  rw [if_neg (by decide), if_pos trivial, sign64]
  rfl

theorem un_32 (k : Nat) (hk : 950 ≤ k) (op a v : Int) (ha : 0 ≤ a) (ha2 : a < 18446744073709551616) (h0 : 2 ≤ op) (h1 : op < 7) (h : Un32 op (a % 4294967296).toNat v) :
    ratchetref04_Format_Unary.f (k + 9) 23 8 op a = some v := by
  unfold ratchetref04_Format_Unary.f
  rw [cut32 a ha ha2]
  simp only [Option.bind_some]
  rw [if_neg (by omega), if_neg (by omega), isNan32 _ (by omega) (by omega)]
  obtain ⟨x, hx⟩ : ∃ x, a % 4294967296 = x := ⟨_, rfl⟩
  rw [hx] at h ⊢
  have hx0 : 0 ≤ x := by omega
  have hx1 : x < 4294967296 := by omega
  have hxc : (x.toNat : Int) = x := by omega
  have hxl : x.toNat < 4294967296 := by omega
  have hr := rung32 x hx0
  simp only [Option.bind_some]
  by_cases cn : FloatKind.f32.format.infRung < rung FloatKind.f32.format x.toNat
  · rw [if_pos (decide_eq_true cn), nan32, un32_nan h cn]; rfl
  · rw [if_neg (by simp only [decide_eq_true_eq]; exact cn), size32 x hx0 (by omega)]
    simp only [Option.bind_some]
    by_cases cz : x % 2147483648 = 0
    · rw [if_pos cz, un32_zero h hxl (by omega), hxc]
    · rw [if_neg cz]
      have hne : rung FloatKind.f32.format x.toNat ≠ 0 := by omega
      by_cases c6 : op = 6
      · subst c6
        rw [if_pos rfl, below32 x hx0 (by omega)]
        simp only [Option.bind_some]
        rw [ratchetref04_Format_Unary.j0.eq_2]
        cases hs : sgn FloatKind.f32.format x.toNat
        · rw [if_neg (by decide), size32 x hx0 (by omega), show ratchetref04_Format_inf.f 23 8 = some 2139095040 by kernel_rfl]
          simp only [Option.bind_some]
          by_cases ci : x % 2147483648 = 2139095040
          · rw [if_pos ci, un32_inf h hxl (by rw [f32_inf]; omega) (fun _ => hs), hxc]
          · rw [if_neg ci, if_pos trivial]
            have hf : rung FloatKind.f32.format x.toNat < FloatKind.f32.format.infRung := by rw [f32_inf] at cn ⊢; omega
            obtain ⟨n, hn, hv⟩ := un32_sqrt _ _ h hf hne hs
            obtain ⟨u, hu, hv2⟩ := root_32 k (by omega) x hx0 (by omega) hf hne hs
            rw [hv2, hv]
            rw [hn] at hu; cases hu; rfl
        · rw [if_pos rfl, nan32, un32_neg h hxl hs hne (by omega)]; rfl
      · rw [if_neg c6]
        rw [ratchetref04_Format_Unary.j0.eq_2]
        rw [if_neg (by decide), size32 x hx0 (by omega), show ratchetref04_Format_inf.f 23 8 = some 2139095040 by kernel_rfl]
        simp only [Option.bind_some]
        by_cases ci : x % 2147483648 = 2139095040
        · rw [if_pos ci, un32_inf h hxl (by rw [f32_inf]; omega) (fun c => absurd c c6), hxc]
        · rw [if_neg ci, if_neg c6]
          have hf : rung FloatKind.f32.format x.toNat < FloatKind.f32.format.infRung := by rw [f32_inf] at cn ⊢; omega
          rw [un32_round op h0 (by omega) _ _ h hf, whole_32 k (by omega) op h0 (by omega) x hx0 hx1 hf hne]
          rfl
theorem un_64 (k : Nat) (hk : 950 ≤ k) (op x v : Int) (hx0 : 0 ≤ x) (hx1 : x < 18446744073709551616) (h0 : 2 ≤ op) (h1 : op < 7) (h : Un64 op x.toNat v) :
    ratchetref04_Format_Unary.f (k + 9) 52 11 op x = some v := by
  unfold ratchetref04_Format_Unary.f
  rw [cut64 x]
  simp only [Option.bind_some]
  rw [if_neg (by omega), if_neg (by omega), isNan64 _ (by omega) (by omega)]
  have hxc : (x.toNat : Int) = x := by omega
  have hxl : x.toNat < 18446744073709551616 := by omega
  have hr := rung64 x hx0
  simp only [Option.bind_some]
  by_cases cn : FloatKind.f64.format.infRung < rung FloatKind.f64.format x.toNat
  · rw [if_pos (decide_eq_true cn), nan64, un64_nan h cn]; rfl
  · rw [if_neg (by simp only [decide_eq_true_eq]; exact cn), size64 x hx0 (by omega)]
    simp only [Option.bind_some]
    by_cases cz : x % 9223372036854775808 = 0
    · rw [if_pos cz, un64_zero h hxl (by omega), hxc]
    · rw [if_neg cz]
      have hne : rung FloatKind.f64.format x.toNat ≠ 0 := by omega
      by_cases c6 : op = 6
      · subst c6
        rw [if_pos rfl, below64 x hx0 (by omega)]
        simp only [Option.bind_some]
        rw [ratchetref04_Format_Unary.j0.eq_2]
        cases hs : sgn FloatKind.f64.format x.toNat
        · rw [if_neg (by decide), size64 x hx0 (by omega), show ratchetref04_Format_inf.f 52 11 = some 9218868437227405312 by kernel_rfl]
          simp only [Option.bind_some]
          by_cases ci : x % 9223372036854775808 = 9218868437227405312
          · rw [if_pos ci, un64_inf h hxl (by rw [f64_inf]; omega) (fun _ => hs), hxc]
          · rw [if_neg ci, if_pos trivial]
            have hf : rung FloatKind.f64.format x.toNat < FloatKind.f64.format.infRung := by rw [f64_inf] at cn ⊢; omega
            obtain ⟨u, hu, hv2⟩ := root_64 k (by omega) x hx0 (by omega) hf hne hs
            rw [hv2]
            obtain ⟨q, hq, hw⟩ : ∃ q, q ≤ FloatKind.f64.format.infRung ∧ u = FloatKind.f64.format.word false q := by
              unfold Ieee.Format.sqrt at hu
              have hd := decode_fin (k := .f64) x.toNat hf
              unfold FloatKind.decode at hd
              rw [hd, hs] at hu
              simp only [Ieee.Datum.root] at hu
              rw [if_neg (by rw [sgf_zero]; exact hne), if_neg Bool.false_ne_true] at hu
              cases hu
              exact nearest_num _ _ _ _
            rw [un64_sqrt _ _ u h hu (by rw [hw]; exact fin_num hq)]; rfl
        · rw [if_pos rfl, nan64, un64_neg h hxl hs hne (by omega)]; rfl
      · rw [if_neg c6]
        rw [ratchetref04_Format_Unary.j0.eq_2]
        rw [if_neg (by decide), size64 x hx0 (by omega), show ratchetref04_Format_inf.f 52 11 = some 9218868437227405312 by kernel_rfl]
        simp only [Option.bind_some]
        by_cases ci : x % 9223372036854775808 = 9218868437227405312
        · rw [if_pos ci, un64_inf h hxl (by rw [f64_inf]; omega) (fun c => absurd c c6), hxc]
        · rw [if_neg ci, if_neg c6]
          have hf : rung FloatKind.f64.format x.toNat < FloatKind.f64.format.infRung := by rw [f64_inf] at cn ⊢; omega
          rw [un64_round op h0 (by omega) _ _ h hf, whole_64 k (by omega) op h0 (by omega) x hx0 hx1 hf hne]
          rfl

set_option maxRecDepth 100000 in
theorem law (n a x e : Int) (k : Nat) (w : World)
    (h1 : ∀ w : World, Calls Try.prog 34 #[.int .i64 n, .int .u64 a] w fun r w' => r = .returned (.tuple #[.int .u64 x, .int .i64 e]) ∧ Below w.heap.size w w')
    (h2 : ratchetref04_Unary.f k n a = some (x, e)) :
    Calls Try.prog 10 #[.int .i64 n, .int .u64 a] w fun r w' => r = .returned (.bool true) ∧ Below w.heap.size w w' := by
  have H1 := Lib.hid h1
  have H2 := Lib.hid h2
  clear h1 h2
  go_enter Try.func10, Try.ntmps10
  go_wp2_with (first | (go_at_call 34; refine (H1.out _).mono ?_; rintro r w1 ⟨rfl, hb1⟩) | (go_at_call 35; refine (ratchetref04_Unary.calls k n a x e _ H2.out).mono ?_; rintro r w2 ⟨rfl, hb2⟩))
  go_ret
  exact ⟨rfl, hb1.trans (hb2.mono hb1.size)⟩
set_option maxRecDepth 100000 in
theorem lawU (n a : Int) (U : Int → Prop) (k : Nat) (w : World)
    (h1 : ∀ w : World, Calls Try.prog 34 #[.int .i64 n, .int .u64 a] w (UnPost U w))
    (h2 : ∀ x, U x → ratchetref04_Unary.f k n a = some (x, 0)) :
    Calls Try.prog 10 #[.int .i64 n, .int .u64 a] w fun r w' => r = .returned (.bool true) ∧ Below w.heap.size w w' := by
  have H1 := Lib.hid h1
  have H2 := Lib.hid h2
  clear h1 h2
  go_enter Try.func10, Try.ntmps10
  go_wp2_with (first | (go_at_call 34; refine (H1.out _).mono ?_; rintro r w1 ⟨x, rfl, hU, hb1⟩; have HU := Lib.hid (H2.out _ hU); clear hU) | (go_at_call 35; refine (ratchetref04_Unary.calls k n a x _ _ HU.out).mono ?_; rintro r w2 ⟨rfl, hb2⟩))
  go_ret
  exact ⟨rfl, hb1.trans (hb2.mono hb1.size)⟩

theorem walk (n a : Int) (w : World) (_ : (Lit.int .i64 n).wf = true) (ha : (Lit.int .u64 a).wf = true) :
    Calls Try.prog 10 #[.int .i64 n, .int .u64 a] w fun r w' => r = .returned (.bool true) ∧ Below w.heap.size w w' := by
  simp [Lit.wf, IntKind.min, IntKind.max, IntKind.signed, IntKind.bits] at ha
  have ha0 : 0 ≤ a := ha.1
  have ha1 : a < 18446744073709551616 := by omega
  by_cases c0 : n < 139 ∨ (146 ≤ n ∧ n < 153) ∨ 160 ≤ n
  · exact law n a 0 1 1 w (unary_no n a c0) (ref_no 0 n a c0)
  by_cases c1 : n < 146
  · by_cases d0 : n = 139
    · subst d0; exact law 139 a _ 0 1 w (abs_32 a) (ref_32 0 139 a _ (by omega) (by omega) (mag_32 0 a ha0 ha1))
    by_cases d1 : n = 140
    · subst d1; exact law 140 a _ 0 1 w (neg_32 a) (ref_32 0 140 a _ (by omega) (by omega) (minus_32 0 a ha0 ha1))
    by_cases d2 : n = 145
    · subst d2; exact lawU 145 a (Un32 6 (a % 4294967296).toNat) 1009 w (unary_32s a) (fun v h => ref_32 1008 145 a v (by omega) (by omega) (un_32 1000 (by decide) _ a v ha0 ha1 (by omega) (by omega) h))
    · exact lawU n a (Un32 (n - 139) (a % 4294967296).toNat) 1009 w (unary_32 n a (by omega) (by omega)) (fun v h => ref_32 1008 n a v (by omega) (by omega) (un_32 1000 (by decide) _ a v ha0 ha1 (by omega) (by omega) h))
  · by_cases d0 : n = 153
    · subst d0; exact law 153 a _ 0 1 w (abs_64 a) (ref_64 0 153 a _ (by omega) (by omega) (mag_64 0 a ha0 ha1))
    by_cases d1 : n = 154
    · subst d1; exact law 154 a _ 0 1 w (neg_64 a) (ref_64 0 154 a _ (by omega) (by omega) (minus_64 0 a))
    by_cases d2 : n = 159
    · subst d2; exact lawU 159 a (Un64 6 a.toNat) 1009 w (unary_64s a) (fun v h => ref_64 1008 159 a v (by omega) (by omega) (un_64 1000 (by decide) _ a v ha0 ha1 (by omega) (by omega) h))
    · exact lawU n a (Un64 (n - 153) a.toNat) 1009 w (unary_64 n a ha1 (by omega) (by omega)) (fun v h => ref_64 1008 n a v (by omega) (by omega) (un_64 1000 (by decide) _ a v ha0 ha1 (by omega) (by omega) h))
end Go.Proofs.Ytapfapngcncaeaa.FnumUnaryWalk
