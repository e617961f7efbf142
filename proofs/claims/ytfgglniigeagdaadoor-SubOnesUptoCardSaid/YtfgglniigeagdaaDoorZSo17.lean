/- Parts of the proof of subOnes_holds (17 of 18): what it says and shows stands at its declarations. -/
import Derived.Test.YtfgglniigeagdaaDoorZSo16
namespace Go.Proofs.YtfgglniigeagdaaDoor.Cn
set_option linter.unusedSimpArgs false
set_option linter.unusedVariables false
open Go.RowKit Go.Maps Go.Proofs.YtfgglniigeagdaaDoorW.PrintWords Go.Proofs.YtfgglniigeagdaaDoorW.PrintLast Go.Proofs.YtfgglniigeagdaaDoorW.PrintMore Go.Proofs.YtfgglniigeagdaaDoor.QD
set_option maxRecDepth 100000 in
set_option maxHeartbeats 8000000 in
theorem subOnes_calls (A : Option Addr) (c : Nat) (l : List S62) (a b : Int) (w : World) (hl : LA w A c l) (htab : Lib.TabBelow Tryd.prog w.heap.size w "internal/strconv.uint64pow10" .u64 Lib.pow10Tab) :
    Calls Tryd.prog 7 #[.slice A l.length c, .int .i64 a, .int .i64 b] w fun e w' => e = .returned (.bool true) ∧ Below w.heap.size w w' := by
  have HL := Aside0.mk hl
  have HT := Aside0.mk htab
  by_cases hc : Clo l
  · have HC := Aside0.mk hc
    have K := r7Decl_yes A c l w hl hc
    have htl : tcount l ≤ 1048576 := by have := hl.flat_le; rw [flat_length] at this; exact this
    have HTL := Aside0.mk htl
    clear hl htab hc htl
    go_enter Tryd.func7, Tryd.ntmps7
    go_wp2_with fail
    refine K.mono ?_
    rintro e w1 ⟨n1, er, rfl, ho, hb⟩
    have B1 := Aside0.mk hb
    have HO := Aside0.mk ho
    clear hb ho K
    go_wp2_with fail
    refine (r5Count_calls A c l w1 (HL.out.below B1.out)).mono ?_
    rintro e w2 ⟨rfl, hb⟩
    have B2 := Aside0.mk (B1.out.trans (hb.mono B1.out.size))
    clear hb
    obtain ⟨m, hm⟩ : ∃ m, m = (flat l).length := ⟨_, rfl⟩
    rw [← hm]
    have HM := Aside0.mk hm
    clear hm
    have AW := awake_calls w2 (tab_mono (HT.out.on B2.out) B2.out.size)
    by_cases he : er = 0
    rotate_left
    · have hne : (er != 0) = true := by simp [he]
      go_wp2_with fail
      refine AW.mono ?_
      rintro e w3 ⟨rfl, hb⟩
      have B3 := Aside0.mk (B2.out.trans (hb.mono B2.out.size))
      clear hb AW
      go_wp2_with fail
      go_ret
      exact ⟨rfl, B3.out⟩
    subst he
    have DN : Aside0 (Down l ((flat l).length : Int)) := ⟨by
      rcases HO.out with ⟨_, _, h⟩ | ⟨_, _, _, h, _⟩
      · exact down_of h
      · exact absurd rfl h⟩
    by_cases ha0 : a < 0
    · go_wp2_with fail
      refine AW.mono ?_
      rintro e w3 ⟨rfl, hb⟩
      have B3 := Aside0.mk (B2.out.trans (hb.mono B2.out.size))
      clear hb AW
      go_wp2_with fail
      go_ret
      exact ⟨rfl, B3.out⟩
    by_cases hb0 : b < 0
    · go_wp2_with fail
      refine AW.mono ?_
      rintro e w3 ⟨rfl, hb⟩
      have B3 := Aside0.mk (B2.out.trans (hb.mono B2.out.size))
      clear hb AW
      go_wp2_with fail
      go_ret
      exact ⟨rfl, B3.out⟩
    by_cases ha1 : (m : Int) ≤ a
    · go_wp2_with fail
      refine AW.mono ?_
      rintro e w3 ⟨rfl, hb⟩
      have B3 := Aside0.mk (B2.out.trans (hb.mono B2.out.size))
      clear hb AW
      go_wp2_with fail
      go_ret
      exact ⟨rfl, B3.out⟩
    by_cases hb1 : (m : Int) ≤ b
    · go_wp2_with fail
      refine AW.mono ?_
      rintro e w3 ⟨rfl, hb⟩
      have B3 := Aside0.mk (B2.out.trans (hb.mono B2.out.size))
      clear hb AW
      go_wp2_with fail
      go_ret
      exact ⟨rfl, B3.out⟩
    have LAW := Aside0.mk (ones_law HC.out HTL.out DN.out (a := a) (b := b) (by omega) (by rw [← HM.out]; omega) (by omega) (by rw [← HM.out]; omega))
    clear AW
    go_wp2_with fail
    obtain ⟨p, q, hone⟩ : ∃ p q, oneM l l a b = (p, q) := ⟨_, _, rfl⟩
    rw [hone] at LAW
    refine (r6Same_calls A c l a b w2 (HL.out.below B2.out) p q hone).mono ?_
    rintro e w3 ⟨rfl, hb⟩
    have B3 := Aside0.mk (B2.out.trans (hb.mono B2.out.size))
    clear hb hone
    go_wp2_with fail
    refine (SHeap_yes A c l a b w3 (HL.out.below B3.out) HC.out (tab_mono (HT.out.on B3.out) B3.out.size)).mono ?_
    rintro e w4 ⟨rfl, hb⟩
    have B4 := Aside0.mk (B3.out.trans (hb.mono B3.out.size))
    clear hb
    obtain ⟨h1, hh1⟩ : ∃ h1, h1 = heapM l a b := ⟨_, rfl⟩
    rw [← hh1] at LAW ⊢
    clear hh1
    cases h1 with
    | false =>
      have hp : p = false := by simpa using LAW.out.symm
      subst hp
      go_wp2_with fail
      go_ret
      exact ⟨rfl, B4.out⟩
    | true =>
      go_wp2_with fail
      refine (SHeap_yes A c l b a w4 (HL.out.below B4.out) HC.out (tab_mono (HT.out.on B4.out) B4.out.size)).mono ?_
      rintro e w5 ⟨rfl, hb⟩
      have B5 := Aside0.mk (B4.out.trans (hb.mono B4.out.size))
      clear hb
      have hp : heapM l b a = p := by simpa using LAW.out
      rw [hp]
      have pp : (p == p) = true := beq_self_eq_true p
      clear hp
      go_wp2_with fail
      go_ret
      exact ⟨by first | rfl | simp, B5.out⟩
  · have K := r7Decl_no A c l w hl hc
    clear hl htab hc
    go_enter Tryd.func7, Tryd.ntmps7
    go_wp2_with fail
    refine K.mono ?_
    rintro e w1 ⟨n1, rfl, _, hb⟩
    have B1 := Aside0.mk hb
    clear hb K
    go_wp2_with fail
    refine (r5Count_calls A c l w1 (HL.out.below B1.out)).mono ?_
    rintro e w2 ⟨rfl, hb⟩
    have B2 := Aside0.mk (B1.out.trans (hb.mono B1.out.size))
    clear hb
    go_wp2_with fail
    refine (awake_calls w2 (tab_mono (HT.out.on B2.out) B2.out.size)).mono ?_
    rintro e w3 ⟨rfl, hb⟩
    have B3 := Aside0.mk (B2.out.trans (hb.mono B2.out.size))
    clear hb
    go_wp2_with fail
    go_ret
    exact ⟨rfl, B3.out⟩
end Go.Proofs.YtfgglniigeagdaaDoor.Cn
