/- Parts of the proof of vctlTypes_holds (7 of 12): what it says and shows stands at its declarations. -/
import Derived.Test.YtohlmkcgempdlaaGreatDoorZVt6
namespace Go.Proofs.YtohlmkcgempdlaaGreatDoor.QD
open Go.RowKit Go.Proofs.YtohlmkcgempdlaaGreatDoorW.PrintWords Go.Proofs.YtohlmkcgempdlaaGreatDoorW.PrintLast Go.Proofs.YtohlmkcgempdlaaGreatDoorW.PrintMore
attribute [local go_sem] max2_int min2_int max_two min_two max_three min_three max_four min_four 
set_option linter.unusedVariables false
set_option linter.unusedSimpArgs false
def ratchetref15_Takes.f (a0 : Int) : Option (Bool) := if a0 = 0 then (some true) else (if a0 = 1 then (some true) else (if a0 = 8 then (some true) else (if a0 = 10 then (some true) else (if a0 = 12 then (some true) else (if a0 = 13 then (some true) else (if a0 = 14 then (some true) else (if a0 = 15 then (some true) else (if a0 = 16 then (some true) else (if a0 = 17 then (some true) else (if a0 = 18 then (some true) else (if a0 = 19 then (some true) else (if a0 = 20 then (some true) else (if a0 = 21 then (some true) else (if a0 = 213 then (some true) else (if a0 = 214 then (some true) else (some false))))))))))))))))
set_option maxHeartbeats 8000000 in
set_option maxRecDepth 100000 in
theorem ratchetref15_Takes.calls (a0 : Int) (r : Bool) (w : World) (h : ratchetref15_Takes.f a0 = some r) :
    Calls Tryz.prog 27 #[.int .i64 a0] w fun e w' => e = .returned (.bool r) ∧ Drawn0 w w' := by
  have H : (if a0 = 0 then (some true) else (if a0 = 1 then (some true) else (if a0 = 8 then (some true) else (if a0 = 10 then (some true) else (if a0 = 12 then (some true) else (if a0 = 13 then (some true) else (if a0 = 14 then (some true) else (if a0 = 15 then (some true) else (if a0 = 16 then (some true) else (if a0 = 17 then (some true) else (if a0 = 18 then (some true) else (if a0 = 19 then (some true) else (if a0 = 20 then (some true) else (if a0 = 21 then (some true) else (if a0 = 213 then (some true) else (if a0 = 214 then (some true) else (some false))))))))))))))))) = some r := h
  clear h
  by_cases c2 : a0 = 0
  · rw [if_pos c2] at H
    have c2b0 : (a0 == 0) = true := beq_iff_eq.mpr c2
    have c2b1 : (a0 != 0) = false := bne_eq_false_iff_eq.mpr c2
    clear c2
    obtain rfl := Option.some.inj H
    go_enter Tryz.func27, Tryz.ntmps27
    go_wp2
    go_ret
    exact ⟨by first | rfl | (simp; done) | (simp [*]; done), by repeat (first | exact Drawn0.refl _ | apply Drawn0.step)⟩
  · rw [if_neg c2] at H
    have c2b0 : (a0 == 0) = false := beq_eq_false_iff_ne.mpr c2
    have c2b1 : (a0 != 0) = true := bne_iff_ne.mpr c2
    by_cases c3 : a0 = 1
    · rw [if_pos c3] at H
      have c3b0 : (a0 == 1) = true := beq_iff_eq.mpr c3
      have c3b1 : (a0 != 1) = false := bne_eq_false_iff_eq.mpr c3
      clear c3
      obtain rfl := Option.some.inj H
      go_enter Tryz.func27, Tryz.ntmps27
      go_wp2
      go_ret
      exact ⟨by first | rfl | (simp; done) | (simp [*]; done), by repeat (first | exact Drawn0.refl _ | apply Drawn0.step)⟩
    · rw [if_neg c3] at H
      have c3b0 : (a0 == 1) = false := beq_eq_false_iff_ne.mpr c3
      have c3b1 : (a0 != 1) = true := bne_iff_ne.mpr c3
      by_cases c4 : a0 = 8
      · rw [if_pos c4] at H
        have c4b0 : (a0 == 8) = true := beq_iff_eq.mpr c4
        have c4b1 : (a0 != 8) = false := bne_eq_false_iff_eq.mpr c4
        clear c4
        obtain rfl := Option.some.inj H
        go_enter Tryz.func27, Tryz.ntmps27
        go_wp2
        go_ret
        exact ⟨by first | rfl | (simp; done) | (simp [*]; done), by repeat (first | exact Drawn0.refl _ | apply Drawn0.step)⟩
      · rw [if_neg c4] at H
        have c4b0 : (a0 == 8) = false := beq_eq_false_iff_ne.mpr c4
        have c4b1 : (a0 != 8) = true := bne_iff_ne.mpr c4
        by_cases c5 : a0 = 10
        · rw [if_pos c5] at H
          have c5b0 : (a0 == 10) = true := beq_iff_eq.mpr c5
          have c5b1 : (a0 != 10) = false := bne_eq_false_iff_eq.mpr c5
          clear c5
          obtain rfl := Option.some.inj H
          go_enter Tryz.func27, Tryz.ntmps27
          go_wp2
          go_ret
          exact ⟨by first | rfl | (simp; done) | (simp [*]; done), by repeat (first | exact Drawn0.refl _ | apply Drawn0.step)⟩
        · rw [if_neg c5] at H
          have c5b0 : (a0 == 10) = false := beq_eq_false_iff_ne.mpr c5
          have c5b1 : (a0 != 10) = true := bne_iff_ne.mpr c5
          by_cases c6 : a0 = 12
          · rw [if_pos c6] at H
            have c6b0 : (a0 == 12) = true := beq_iff_eq.mpr c6
            have c6b1 : (a0 != 12) = false := bne_eq_false_iff_eq.mpr c6
            clear c6
            obtain rfl := Option.some.inj H
            go_enter Tryz.func27, Tryz.ntmps27
            go_wp2
            go_ret
            exact ⟨by first | rfl | (simp; done) | (simp [*]; done), by repeat (first | exact Drawn0.refl _ | apply Drawn0.step)⟩
          · rw [if_neg c6] at H
            have c6b0 : (a0 == 12) = false := beq_eq_false_iff_ne.mpr c6
            have c6b1 : (a0 != 12) = true := bne_iff_ne.mpr c6
            by_cases c7 : a0 = 13
            · rw [if_pos c7] at H
              have c7b0 : (a0 == 13) = true := beq_iff_eq.mpr c7
              have c7b1 : (a0 != 13) = false := bne_eq_false_iff_eq.mpr c7
              clear c7
              obtain rfl := Option.some.inj H
              go_enter Tryz.func27, Tryz.ntmps27
              go_wp2
              go_ret
              exact ⟨by first | rfl | (simp; done) | (simp [*]; done), by repeat (first | exact Drawn0.refl _ | apply Drawn0.step)⟩
            · rw [if_neg c7] at H
              have c7b0 : (a0 == 13) = false := beq_eq_false_iff_ne.mpr c7
              have c7b1 : (a0 != 13) = true := bne_iff_ne.mpr c7
              by_cases c8 : a0 = 14
              · rw [if_pos c8] at H
                have c8b0 : (a0 == 14) = true := beq_iff_eq.mpr c8
                have c8b1 : (a0 != 14) = false := bne_eq_false_iff_eq.mpr c8
                clear c8
                obtain rfl := Option.some.inj H
                go_enter Tryz.func27, Tryz.ntmps27
                go_wp2
                go_ret
                exact ⟨by first | rfl | (simp; done) | (simp [*]; done), by repeat (first | exact Drawn0.refl _ | apply Drawn0.step)⟩
              · rw [if_neg c8] at H
                have c8b0 : (a0 == 14) = false := beq_eq_false_iff_ne.mpr c8
                have c8b1 : (a0 != 14) = true := bne_iff_ne.mpr c8
                by_cases c9 : a0 = 15
                · rw [if_pos c9] at H
                  have c9b0 : (a0 == 15) = true := beq_iff_eq.mpr c9
                  have c9b1 : (a0 != 15) = false := bne_eq_false_iff_eq.mpr c9
                  clear c9
                  obtain rfl := Option.some.inj H
                  go_enter Tryz.func27, Tryz.ntmps27
                  go_wp2
                  go_ret
                  exact ⟨by first | rfl | (simp; done) | (simp [*]; done), by repeat (first | exact Drawn0.refl _ | apply Drawn0.step)⟩
                · rw [if_neg c9] at H
                  have c9b0 : (a0 == 15) = false := beq_eq_false_iff_ne.mpr c9
                  have c9b1 : (a0 != 15) = true := bne_iff_ne.mpr c9
                  by_cases c10 : a0 = 16
                  · rw [if_pos c10] at H
                    have c10b0 : (a0 == 16) = true := beq_iff_eq.mpr c10
                    have c10b1 : (a0 != 16) = false := bne_eq_false_iff_eq.mpr c10
                    clear c10
                    obtain rfl := Option.some.inj H
                    go_enter Tryz.func27, Tryz.ntmps27
                    go_wp2
                    go_ret
                    exact ⟨by first | rfl | (simp; done) | (simp [*]; done), by repeat (first | exact Drawn0.refl _ | apply Drawn0.step)⟩
                  · rw [if_neg c10] at H
                    have c10b0 : (a0 == 16) = false := beq_eq_false_iff_ne.mpr c10
                    have c10b1 : (a0 != 16) = true := bne_iff_ne.mpr c10
                    by_cases c11 : a0 = 17
                    · rw [if_pos c11] at H
                      have c11b0 : (a0 == 17) = true := beq_iff_eq.mpr c11
                      have c11b1 : (a0 != 17) = false := bne_eq_false_iff_eq.mpr c11
                      clear c11
                      obtain rfl := Option.some.inj H
                      go_enter Tryz.func27, Tryz.ntmps27
                      go_wp2
                      go_ret
                      exact ⟨by first | rfl | (simp; done) | (simp [*]; done), by repeat (first | exact Drawn0.refl _ | apply Drawn0.step)⟩
                    · rw [if_neg c11] at H
                      have c11b0 : (a0 == 17) = false := beq_eq_false_iff_ne.mpr c11
                      have c11b1 : (a0 != 17) = true := bne_iff_ne.mpr c11
                      by_cases c12 : a0 = 18
                      · rw [if_pos c12] at H
                        have c12b0 : (a0 == 18) = true := beq_iff_eq.mpr c12
                        have c12b1 : (a0 != 18) = false := bne_eq_false_iff_eq.mpr c12
                        clear c12
                        obtain rfl := Option.some.inj H
                        go_enter Tryz.func27, Tryz.ntmps27
                        go_wp2
                        go_ret
                        exact ⟨by first | rfl | (simp; done) | (simp [*]; done), by repeat (first | exact Drawn0.refl _ | apply Drawn0.step)⟩
                      · rw [if_neg c12] at H
                        have c12b0 : (a0 == 18) = false := beq_eq_false_iff_ne.mpr c12
                        have c12b1 : (a0 != 18) = true := bne_iff_ne.mpr c12
                        by_cases c13 : a0 = 19
                        · rw [if_pos c13] at H
                          have c13b0 : (a0 == 19) = true := beq_iff_eq.mpr c13
                          have c13b1 : (a0 != 19) = false := bne_eq_false_iff_eq.mpr c13
                          clear c13
                          obtain rfl := Option.some.inj H
                          go_enter Tryz.func27, Tryz.ntmps27
                          go_wp2
                          go_ret
                          exact ⟨by first | rfl | (simp; done) | (simp [*]; done), by repeat (first | exact Drawn0.refl _ | apply Drawn0.step)⟩
                        · rw [if_neg c13] at H
                          have c13b0 : (a0 == 19) = false := beq_eq_false_iff_ne.mpr c13
                          have c13b1 : (a0 != 19) = true := bne_iff_ne.mpr c13
                          by_cases c14 : a0 = 20
                          · rw [if_pos c14] at H
                            have c14b0 : (a0 == 20) = true := beq_iff_eq.mpr c14
                            have c14b1 : (a0 != 20) = false := bne_eq_false_iff_eq.mpr c14
                            clear c14
                            obtain rfl := Option.some.inj H
                            go_enter Tryz.func27, Tryz.ntmps27
                            go_wp2
                            go_ret
                            exact ⟨by first | rfl | (simp; done) | (simp [*]; done), by repeat (first | exact Drawn0.refl _ | apply Drawn0.step)⟩
                          · rw [if_neg c14] at H
                            have c14b0 : (a0 == 20) = false := beq_eq_false_iff_ne.mpr c14
                            have c14b1 : (a0 != 20) = true := bne_iff_ne.mpr c14
                            by_cases c15 : a0 = 21
                            · rw [if_pos c15] at H
                              have c15b0 : (a0 == 21) = true := beq_iff_eq.mpr c15
                              have c15b1 : (a0 != 21) = false := bne_eq_false_iff_eq.mpr c15
                              clear c15
                              obtain rfl := Option.some.inj H
                              go_enter Tryz.func27, Tryz.ntmps27
                              go_wp2
                              go_ret
                              exact ⟨by first | rfl | (simp; done) | (simp [*]; done), by repeat (first | exact Drawn0.refl _ | apply Drawn0.step)⟩
                            · rw [if_neg c15] at H
                              have c15b0 : (a0 == 21) = false := beq_eq_false_iff_ne.mpr c15
                              have c15b1 : (a0 != 21) = true := bne_iff_ne.mpr c15
                              by_cases c16 : a0 = 213
                              · rw [if_pos c16] at H
                                have c16b0 : (a0 == 213) = true := beq_iff_eq.mpr c16
                                have c16b1 : (a0 != 213) = false := bne_eq_false_iff_eq.mpr c16
                                clear c16
                                obtain rfl := Option.some.inj H
                                go_enter Tryz.func27, Tryz.ntmps27
                                go_wp2
                                go_ret
                                exact ⟨by first | rfl | (simp; done) | (simp [*]; done), by repeat (first | exact Drawn0.refl _ | apply Drawn0.step)⟩
                              · rw [if_neg c16] at H
                                have c16b0 : (a0 == 213) = false := beq_eq_false_iff_ne.mpr c16
                                have c16b1 : (a0 != 213) = true := bne_iff_ne.mpr c16
                                by_cases c17 : a0 = 214
                                · rw [if_pos c17] at H
                                  have c17b0 : (a0 == 214) = true := beq_iff_eq.mpr c17
                                  have c17b1 : (a0 != 214) = false := bne_eq_false_iff_eq.mpr c17
                                  clear c17
                                  obtain rfl := Option.some.inj H
                                  go_enter Tryz.func27, Tryz.ntmps27
                                  go_wp2
                                  go_ret
                                  exact ⟨by first | rfl | (simp; done) | (simp [*]; done), by repeat (first | exact Drawn0.refl _ | apply Drawn0.step)⟩
                                · rw [if_neg c17] at H
                                  have c17b0 : (a0 == 214) = false := beq_eq_false_iff_ne.mpr c17
                                  have c17b1 : (a0 != 214) = true := bne_iff_ne.mpr c17
                                  obtain rfl := Option.some.inj H
                                  go_enter Tryz.func27, Tryz.ntmps27
                                  go_wp2
                                  go_ret
                                  exact ⟨by first | rfl | (simp; done) | (simp [*]; done), by repeat (first | exact Drawn0.refl _ | apply Drawn0.step)⟩
end Go.Proofs.YtohlmkcgempdlaaGreatDoor.QD
namespace Go.Proofs.YtohlmkcgempdlaaGreatDoor.Cn
set_option linter.unusedSimpArgs false
set_option linter.unusedVariables false
open Go.RowKit Go.Maps Go.Proofs.YtohlmkcgempdlaaGreatDoorW.PrintWords Go.Proofs.YtohlmkcgempdlaaGreatDoorW.PrintLast Go.Proofs.YtohlmkcgempdlaaGreatDoorW.PrintMore Go.Proofs.YtohlmkcgempdlaaGreatDoor.QD
/-- What a function type takes and answers. -/
def ftV (l : List S132) (n : Int) : List S39 × List S39 × Int :=
  match atN l n with
  | some s => if s.f2.f0 = 1 then (s.f2.f1, s.f2.f2, 0) else ([], [], 151)
  | none => ([], [], 150)
/-- What a block begins and ends with. -/
def btV (l : List S132) (t : Int) (v : S39) : List S39 × List S39 × Int :=
  if 0 ≤ t then ftV l t else if v.f0 = 0 then ([], [], 0) else if v.f0 = 5 ∧ (v.f2 < -12 ∨ (vcount l : Int) ≤ v.f2) then ([], [], 150) else ([], [v], 0)
theorem vcount_step {l : List S132} {j : Nat} {r : S132} (h : l[j]? = some r) : vcount (l.take (j + 1)) = vcount (l.take j) + r.f0.length := by
  rw [List.take_add_one, h]
  simp [vcount, List.sum_append]
theorem vcount_take_le (l : List S132) (j : Nat) : vcount (l.take j) ≤ vcount l := by
  conv => rhs; rw [← List.take_append_drop j l]
  unfold vcount
  rw [List.map_append, List.sum_append]
  omega
theorem countP_l0 (l : List S132) (hb : vL l ≤ 1048576) : ∀ (m j : Nat), j + m = l.length → types_Count.l0 (m + 1) ((vcount (l.take j) : Nat) : Int) l (l.length : Int) (j : Int) = some ((vcount l : Nat) : Int) := by
  have hc := vcount_le l
  intro m
  induction m with
  | zero =>
    intro j hj
    rw [types_Count.l0, if_neg (by omega), List.take_of_length_le (by omega)]
  | succ m ih =>
    intro j hj
    have hlt : j < l.length := by omega
    have hs := vcount_step (rd_RT_at0 l j hlt)
    have ht := vcount_take_le l (j + 1)
    have e1 : wrap64 (((vcount (l.take j) : Nat) : Int) + ((rd_T132 l (j : Int)).f0.length : Int)) = ((vcount (l.take (j + 1)) : Nat) : Int) := by unfold wrap64; omega
    have e2 : wrap64 ((j : Int) + 1) = ((j + 1 : Nat) : Int) := by unfold wrap64; omega
    rw [types_Count.l0, if_pos (by omega), if_pos (by omega), if_pos (by omega), e1, e2]
    exact ih (j + 1) (by omega)
theorem countP (l : List S132) (hb : vL l ≤ 1048576) : types_Count.f (l.length + 1) l = some ((vcount l : Nat) : Int) := by
  unfold types_Count.f
  exact countP_l0 l hb l.length 0 (by omega)
theorem countR_l0 (l : List S132) (hb : vL l ≤ 1048576) : ∀ (m j : Nat), j + m = l.length → ratchetref05_Count.l0 (m + 1) l ((vcount (l.take j) : Nat) : Int) (j : Int) = some ((vcount l : Nat) : Int) := by
  have hc := vcount_le l
  intro m
  induction m with
  | zero =>
    intro j hj
    rw [ratchetref05_Count.l0, if_neg (by omega), List.take_of_length_le (by omega)]
  | succ m ih =>
    intro j hj
    have hlt : j < l.length := by omega
    have hs := vcount_step (rd_RT_at0 l j hlt)
    have ht := vcount_take_le l (j + 1)
    have e1 : wrap64 (((vcount (l.take j) : Nat) : Int) + ((rd_T132 l (j : Int)).f0.length : Int)) = ((vcount (l.take (j + 1)) : Nat) : Int) := by unfold wrap64; omega
    have e2 : wrap64 ((j : Int) + 1) = ((j + 1 : Nat) : Int) := by unfold wrap64; omega
    rw [ratchetref05_Count.l0, if_pos (by omega), if_pos (by omega), e1, e2]
    exact ih (j + 1) (by omega)
theorem countR (l : List S132) (hb : vL l ≤ 1048576) : ratchetref05_Count.f (l.length + 1) l = some ((vcount l : Nat) : Int) := by
  unfold ratchetref05_Count.f
  exact countR_l0 l hb l.length 0 (by omega)
theorem knR (l : List S132) (l1 : List Int) (l2 : List S214) (l3 : List S212) (l4 : List S292) (l5 : List Int) (l6 : List S39) (d7 : Int) (l8 : List Bool) (hb : vL l ≤ 1048576) (v : S39) :
    ratchetref14_Known.f (l.length + 1) l l1 l2 l3 l4 l5 l6 d7 l8 v.f0 v.f1 v.f2 = some (!decide (v.f0 = 5 ∧ (v.f2 < -12 ∨ (vcount l : Int) ≤ v.f2))) := by
  unfold ratchetref14_Known.f
  rw [countR l hb]
  by_cases h5 : v.f0 = 5
  · rw [if_pos h5]
    by_cases h12 : v.f2 ≥ -12
    · rw [if_pos h12]
      simp only [Option.bind_some]
      congr 1
      rw [Bool.eq_iff_iff]
      simp [h5]
      omega
    · rw [if_neg h12]
      congr 1
      simp [h5]
      omega
  · rw [if_neg h5]
    simp [h5]
theorem sameR_l0 (xs : List S39) (hx : xs.length ≤ 1048576) : ∀ (m j : Nat), j + m = xs.length → ratchetlaw15_same.l0 (m + 1) xs xs (j : Int) = some true := by
  intro m
  induction m with
  | zero =>
    intro j hj
    rw [ratchetlaw15_same.l0, if_neg (by omega)]
  | succ m ih =>
    intro j hj
    have e2 : wrap64 ((j : Int) + 1) = ((j + 1 : Nat) : Int) := by unfold wrap64; omega
    rw [ratchetlaw15_same.l0, if_pos (by omega), if_pos (by omega), if_pos (by omega), if_neg (by simp), e2]
    exact ih (j + 1) (by omega)
theorem sameR (xs : List S39) (hx : xs.length ≤ 1048576) : ratchetlaw15_same.f (xs.length + 1) xs xs = some true := by
  unfold ratchetlaw15_same.f
  rw [if_pos rfl]
  exact sameR_l0 xs hx xs.length 0 (by omega)
/-- The opcodes of Step. -/
def OPS : List Int := [0, 1, 8, 10, 12, 13, 14, 15, 16, 17, 18, 19, 20, 21, 213, 214]
theorem takesR (op : Int) : ratchetref15_Takes.f op = some (OPS.any fun x => x == op) := by
  unfold ratchetref15_Takes.f
  by_cases h0 : op = 0
  · subst h0; rfl
  rw [if_neg h0]
  by_cases h1 : op = 1
  · subst h1; rfl
  rw [if_neg h1]
  by_cases h2 : op = 8
  · subst h2; rfl
  rw [if_neg h2]
  by_cases h3 : op = 10
  · subst h3; rfl
  rw [if_neg h3]
  by_cases h4 : op = 12
  · subst h4; rfl
  rw [if_neg h4]
  by_cases h5 : op = 13
  · subst h5; rfl
  rw [if_neg h5]
  by_cases h6 : op = 14
  · subst h6; rfl
  rw [if_neg h6]
  by_cases h7 : op = 15
  · subst h7; rfl
  rw [if_neg h7]
  by_cases h8 : op = 16
  · subst h8; rfl
  rw [if_neg h8]
  by_cases h9 : op = 17
  · subst h9; rfl
  rw [if_neg h9]
  by_cases h10 : op = 18
  · subst h10; rfl
  rw [if_neg h10]
  by_cases h11 : op = 19
  · subst h11; rfl
  rw [if_neg h11]
  by_cases h12 : op = 20
  · subst h12; rfl
  rw [if_neg h12]
  by_cases h13 : op = 21
  · subst h13; rfl
  rw [if_neg h13]
  by_cases h14 : op = 213
  · subst h14; rfl
  rw [if_neg h14]
  by_cases h15 : op = 214
  · subst h15; rfl
  rw [if_neg h15]
  refine congrArg some (Eq.symm ?_)
  rw [List.any_eq_false]
  intro x hx
  simp only [OPS, List.mem_cons, List.not_mem_nil, or_false] at hx
  simp only [beq_iff_eq]
  rintro rfl
  omega
/-- What a function type tells is no longer than what came in. -/
theorem atV_mem : ∀ (l : List S132) (n : Int) (s : S123), atV l n = some s → ∃ r ∈ l, s ∈ r.f0
  | [], n, s, h => by simp [atV] at h
  | r :: l, n, s, h => by
    unfold atV at h
    split at h
    · exact ⟨r, List.mem_cons_self, List.mem_of_getElem? h⟩
    · obtain ⟨r', h1, h2⟩ := atV_mem l _ s h
      exact ⟨r', List.mem_cons_of_mem _ h1, h2⟩
theorem ftV_len (l : List S132) (hb : vL l ≤ 1048576) (n : Int) : (ftV l n).1.length ≤ 1048576 ∧ (ftV l n).2.1.length ≤ 1048576 := by
  unfold ftV
  cases h : atN l n with
  | none => simp
  | some s =>
    have h' : atV l n = some s := by unfold atN at h; split at h; (· cases h); exact h
    obtain ⟨r, h1, h2⟩ := atV_mem l n s h'
    have h3 := v_sum_le vS r.f0 s h2
    have h4 := v_sum_le (fun r => vG r.f0 + 1) l r h1
    unfold vL at hb
    unfold vG at h4 hb
    have h5 : s.f1.length + s.f2.f1.length + s.f2.f2.length + s.f2.f3.length + 1 = vS s := rfl
    dsimp only
    split
    · constructor <;> (dsimp only; omega)
    · simp
theorem btV_len (l : List S132) (hb : vL l ≤ 1048576) (t : Int) (v : S39) : (btV l t v).1.length ≤ 1048576 ∧ (btV l t v).2.1.length ≤ 1048576 := by
  unfold btV
  split
  · exact ftV_len l hb t
  · split
    · simp
    · split <;> simp
/-- A Ctx that came in. -/
structure XIn (w : World) (A0 : Option Addr) (c0 : Nat) (l0 : List S132) (A1 : Option Addr) (c1 : Nat) (l1 : List Int) (A2 : Option Addr) (c2 : Nat) (l2 : List S214) (A3 : Option Addr) (c3 : Nat) (l3 : List S212) (A4 : Option Addr) (c4 : Nat) (l4 : List S292) (A5 : Option Addr) (c5 : Nat) (l5 : List Int) (A6 : Option Addr) (c6 : Nat) (l6 : List S39) (d7 : Int) (A8 : Option Addr) (c8 : Nat) (l8 : List Bool) : Prop where
  r0 : Kd.C k132 w A0 l0.length l0
  h0 : l0.length ≤ c0
  r1 : Kd.C (Kd.int .i64) w A1 l1.length l1
  h1 : l1.length ≤ c1
  r2 : Kd.C k214 w A2 l2.length l2
  h2 : l2.length ≤ c2
  r3 : Kd.C k212 w A3 l3.length l3
  h3 : l3.length ≤ c3
  r4 : Kd.C k292 w A4 l4.length l4
  h4 : l4.length ≤ c4
  r5 : Kd.C (Kd.int .i64) w A5 l5.length l5
  h5 : l5.length ≤ c5
  r6 : Kd.C k39 w A6 l6.length l6
  h6 : l6.length ≤ c6
  r8 : Kd.C Kd.bool w A8 l8.length l8
  h8 : l8.length ≤ c8
  bulk : vL l0 ≤ 1048576
theorem XIn.below {w w' : World} {A0 : Option Addr} {c0 : Nat} {l0 : List S132} {A1 : Option Addr} {c1 : Nat} {l1 : List Int} {A2 : Option Addr} {c2 : Nat} {l2 : List S214} {A3 : Option Addr} {c3 : Nat} {l3 : List S212} {A4 : Option Addr} {c4 : Nat} {l4 : List S292} {A5 : Option Addr} {c5 : Nat} {l5 : List Int} {A6 : Option Addr} {c6 : Nat} {l6 : List S39} {d7 : Int} {A8 : Option Addr} {c8 : Nat} {l8 : List Bool} (h : XIn w A0 c0 l0 A1 c1 l1 A2 c2 l2 A3 c3 l3 A4 c4 l4 A5 c5 l5 A6 c6 l6 d7 A8 c8 l8) (hb : Below w.heap.size w w') : XIn w' A0 c0 l0 A1 c1 l1 A2 c2 l2 A3 c3 l3 A4 c4 l4 A5 c5 l5 A6 c6 l6 d7 A8 c8 l8 := ⟨Kd.C_below h.r0 hb, h.h0, Kd.C_below h.r1 hb, h.h1, Kd.C_below h.r2 hb, h.h2, Kd.C_below h.r3 hb, h.h3, Kd.C_below h.r4 hb, h.h4, Kd.C_below h.r5 hb, h.h5, Kd.C_below h.r6 hb, h.h6, Kd.C_below h.r8 hb, h.h8, h.bulk⟩
def FtOut (r : List S39 × List S39 × Int) (w : World) (e : Ending) (w' : World) : Prop :=
  ∃ v1 v2, e = .returned (.tuple #[v1, v2, .int .i64 r.2.2]) ∧ VR w' v1 r.1 ∧ VR w' v2 r.2.1 ∧ Below w.heap.size w w'
theorem VR.nil (w : World) : VR w (.slice none 0 0) [] := ⟨none, 0, rfl, Nat.le_refl _, Kd.C_nil _ _⟩
theorem VR.below {w w' : World} {v : Value} {xs : List S39} (h : VR w v xs) (hb : Below w.heap.size w w') : VR w' v xs := by
  obtain ⟨A, c, h1, h2, h3⟩ := h
  exact ⟨A, c, h1, h2, Kd.C_below h3 hb⟩
theorem VR.one (w5 : World) (v : S39) (T : TypeId) : VR (w5.alloc (.cells #[.int .i64 v.f0, .bool v.f1, .int .i64 v.f2] T)) (.slice (some ⟨w5.heap.size, 0, none⟩) 1 1) [v] := by
  refine ⟨some ⟨w5.heap.size, 0, none⟩, 1, rfl, Nat.le_refl _, rfl, by simp, fun _ => ⟨_, rfl, fun j p hj => ?_⟩⟩
  obtain ⟨rfl, rfl⟩ : j = 0 ∧ p = v := by
    cases j with
    | zero => simp at hj; exact ⟨rfl, hj.symm⟩
    | succ j => simp at hj
  refine ⟨[.int .i64 p.f0, .bool p.f1, .int .i64 p.f2], rfl, k39_mk _ p, fun i u hu => ?_⟩
  have hb := blk_new w5 (.cells #[.int .i64 p.f0, .bool p.f1, .int .i64 p.f2] T)
  have e : (⟨w5.heap.size, 0, none⟩ : Addr).add (0 * (k39).sz + i) = ⟨w5.heap.size, i, none⟩ := by rw [Nat.zero_mul, Nat.zero_add]; unfold Addr.add; simp; (try (intro h; omega))
  rw [e]
  match i, hu with
  | 0, hu => cases hu; exact (blk_cell hb 0).trans rfl
  | 1, hu => cases hu; exact (blk_cell hb 1).trans rfl
  | 2, hu => cases hu; exact (blk_cell hb 2).trans rfl
set_option maxRecDepth 100000 in
set_option maxHeartbeats 8000000 in
theorem vFuncType_calls (A0 : Option Addr) (c0 : Nat) (l0 : List S132) (A1 : Option Addr) (c1 : Nat) (l1 : List Int) (A2 : Option Addr) (c2 : Nat) (l2 : List S214) (A3 : Option Addr) (c3 : Nat) (l3 : List S212) (A4 : Option Addr) (c4 : Nat) (l4 : List S292) (A5 : Option Addr) (c5 : Nat) (l5 : List Int) (A6 : Option Addr) (c6 : Nat) (l6 : List S39) (d7 : Int) (A8 : Option Addr) (c8 : Nat) (l8 : List Bool) (n : Int) (w : World) (hx : XIn w A0 c0 l0 A1 c1 l1 A2 c2 l2 A3 c3 l3 A4 c4 l4 A5 c5 l5 A6 c6 l6 d7 A8 c8 l8) (hn : NV64 n) :
    Calls Tryz.prog 23 #[.agg #[.slice A0 l0.length c0, .slice A1 l1.length c1, .slice A2 l2.length c2, .slice A3 l3.length c3, .slice A4 l4.length c4, .slice A5 l5.length c5, .slice A6 l6.length c6, .int .i64 d7, .slice A8 l8.length c8], .int .i64 n] w (FtOut (ftV l0 n) w) := by
  obtain ⟨W1, hW1⟩ : ∃ W1, W1 = w.alloc (.cells #[.slice A0 l0.length c0, .slice A1 l1.length c1, .slice A2 l2.length c2, .slice A3 l3.length c3, .slice A4 l4.length c4, .slice A5 l5.length c5, .slice A6 l6.length c6, .int .i64 d7, .slice A8 l8.length c8] 30) := ⟨_, rfl⟩
  have b1 : Below w.heap.size w W1 := by rw [hW1]; exact (Below.refl _ _).alloc (Nat.le_refl _) _
  have B1 := Aside0.mk b1
  have K := tAt_calls A0 c0 l0 n W1 (Kd.C_below hx.r0 b1) hx.bulk hn
  clear b1 hx hn
  cases hs : atN l0 n with
  | none =>
    have EV : ftV l0 n = ([], [], 150) := by unfold ftV; rw [hs]
    rw [EV]
    rw [hs] at K
    clear hs EV
    go_enter Tryz.func23, Tryz.ntmps23
    go_wp2_with fail
    rw [← hW1]
    clear hW1
    refine K.mono ?_
    rintro e w2 ⟨rfl, hb⟩
    have B2 := Aside0.mk (B1.out.trans (hb.mono B1.out.size))
    clear hb K
    go_wp2_with fail
    refine bodyPost_ret (results_tmp3 rfl _ _ _) rfl ?_
    exact ⟨_, _, rfl, VR.nil _, VR.nil _, B2.out.alloc B2.out.size _⟩
  | some t =>
    have EV : ftV l0 n = if t.f2.f0 = 1 then (t.f2.f1, t.f2.f2, 0) else ([], [], 151) := by unfold ftV; rw [hs]
    rw [EV]
    rw [hs] at K
    clear hs EV
    by_cases hk : t.f2.f0 = 1
    · rw [if_pos hk]
      have ek : (t.f2.f0 != 1) = false := by simp [hk]
      clear hk
      go_enter Tryz.func23, Tryz.ntmps23
      go_wp2_with fail
      rw [← hW1]
      clear hW1
      refine K.mono ?_
      rintro e w2 ⟨E1, n1, m1, v2, v3, E4, n4, m4, i, p, rfl, hr2, hr3, hb⟩
      have B2 := Aside0.mk (B1.out.trans (hb.mono B1.out.size))
      have R2 := Aside0.mk hr2
      have R3 := Aside0.mk hr3
      obtain ⟨D2, d2, e2, l2_, x2⟩ := hr2
      obtain ⟨D3, d3, e3, l3_, x3⟩ := hr3
      subst e2 e3
      clear x2 x3 l2_ l3_ hb K
      obtain ⟨W3, hW3⟩ : ∃ W3, W3 = w2.alloc (.cells #[.bool t.f0, .slice E1 n1 m1, .int .i64 t.f2.f0, .slice D2 t.f2.f1.length d2, .slice D3 t.f2.f2.length d3, .slice E4 n4 m4] 123) := ⟨_, rfl⟩
      have B3 : Aside0 (Below w.heap.size w W3) := ⟨by rw [hW3]; exact B2.out.alloc B2.out.size _⟩
      have BB : Aside0 (Below w2.heap.size w2 W3) := ⟨by rw [hW3]; exact (Below.refl _ _).alloc (Nat.le_refl _) _⟩
      have hq : W3.heap[w2.heap.size]? = some (.cells #[.bool t.f0, .slice E1 n1 m1, .int .i64 t.f2.f0, .slice D2 t.f2.f1.length d2, .slice D3 t.f2.f2.length d3, .slice E4 n4 m4] 123 (0, 0)) := by rw [hW3]; exact blk_new w2 _
      have z3 : W3.cell? ⟨w2.heap.size, 3, none⟩ = some (.slice D2 t.f2.f1.length d2) := (blk_cell hq 3).trans rfl
      have z4 : W3.cell? ⟨w2.heap.size, 4, none⟩ = some (.slice D3 t.f2.f2.length d3) := (blk_cell hq 4).trans rfl
      clear hq
      go_wp2_with fail
      rw [← hW3]
      clear hW3
      refine start_ (n := 9) (S := fun w' => w'.cell? ⟨w2.heap.size, 3, none⟩ = some (.slice D2 t.f2.f1.length d2) ∧ w'.cell? ⟨w2.heap.size, 4, none⟩ = some (.slice D3 t.f2.f2.length d3)) (ds := []) #[false, false, false, false, false, false, false, false, false] (by kernel_rfl) rfl rfl ⟨z3, z4⟩ (fun hHeld => ?_)
      refine pure_ (i := 0) (N := some 28) (v := ?_) (a' := ?_) #[true, false, false, false, false, false, false, false, false] rfl rfl (by kernel_rfl) (fun _ _ _ h => h) (Or.inl ⟨by rfl, ?_⟩) ?_ ?_
      rotate_left
      · intro w'
        go_simp
        with_reducible rfl
      rotate_left
      · simp only [Act.put, List.setIfInBounds_toArray, List.set_cons_zero, List.set_cons_succ, i64_w, i32_w]
        rfl
      refine pure_ (i := 1) (N := some 29) (v := ?_) (a' := ?_) #[true, true, false, false, false, false, false, false, false] rfl rfl (by kernel_rfl) (fun _ _ _ h => h) (Or.inl ⟨by rfl, ?_⟩) ?_ ?_
      rotate_left
      · intro w'
        go_simp
        with_reducible rfl
      rotate_left
      · simp only [Act.put, List.setIfInBounds_toArray, List.set_cons_zero, List.set_cons_succ, i64_w, i32_w]
        rfl
      refine pure_ (i := 3) (N := some 31) (v := ?_) (a' := ?_) #[true, true, false, true, false, false, false, false, false] rfl rfl (by kernel_rfl) (fun _ _ _ h => h) (Or.inl ⟨by rfl, ?_⟩) ?_ ?_
      rotate_left
      · intro w'
        go_simp
        with_reducible rfl
      rotate_left
      · simp only [Act.put, List.setIfInBounds_toArray, List.set_cons_zero, List.set_cons_succ, i64_w, i32_w]
        rfl
      refine pure_ (i := 4) (N := some 32) (v := ?_) (a' := ?_) #[true, true, false, true, true, false, false, false, false] rfl rfl (by kernel_rfl) (fun _ _ _ h => h) (Or.inl ⟨by rfl, ?_⟩) ?_ ?_
      rotate_left
      · intro w'
        go_simp
        with_reducible rfl
      rotate_left
      · simp only [Act.put, List.setIfInBounds_toArray, List.set_cons_zero, List.set_cons_succ, i64_w, i32_w]
        rfl
      refine take_ (i := 2) (N := some 30) (v := ?_) (a' := ?_) #[true, true, true, true, true, false, false, false, false] rfl rfl (by kernel_rfl) (fun _ _ _ h => h) (Or.inl ⟨by rfl, ?_⟩) hHeld ?_ ?_
      rotate_left
      · rintro w' ⟨s0, s1⟩
        go_simp
        with_reducible rfl
      rotate_left
      · simp only [Act.put, List.setIfInBounds_toArray, List.set_cons_zero, List.set_cons_succ, i64_w, i32_w]
        rfl
      refine pure_ (i := 6) (N := some 4) (v := ?_) (a' := ?_) #[true, true, true, true, true, false, true, false, false] rfl rfl (by kernel_rfl) (fun _ _ _ h => h) (Or.inl ⟨by rfl, ?_⟩) ?_ ?_
      rotate_left
      · intro w'
        go_simp
        with_reducible rfl
      rotate_left
      · simp only [Act.put, List.setIfInBounds_toArray, List.set_cons_zero, List.set_cons_succ, i64_w, i32_w]
        rfl
      refine take_ (i := 5) (N := some 33) (v := ?_) (a' := ?_) #[true, true, true, true, true, true, true, false, false] rfl rfl (by kernel_rfl) (fun _ _ _ h => h) (Or.inl ⟨by rfl, ?_⟩) hHeld ?_ ?_
      rotate_left
      · rintro w' ⟨s0, s1⟩
        go_simp
        with_reducible rfl
      rotate_left
      · simp only [Act.put, List.setIfInBounds_toArray, List.set_cons_zero, List.set_cons_succ, i64_w, i32_w]
        rfl
      refine pure_ (i := 7) (N := some 5) (v := ?_) (a' := ?_) #[true, true, true, true, true, true, true, true, false] rfl rfl (by kernel_rfl) (fun _ _ _ h => h) (Or.inl ⟨by rfl, ?_⟩) ?_ ?_
      rotate_left
      · intro w'
        go_simp
        with_reducible rfl
      rotate_left
      · simp only [Act.put, List.setIfInBounds_toArray, List.set_cons_zero, List.set_cons_succ, i64_w, i32_w]
        rfl
      refine pure_ (i := 8) (N := some 6) (v := ?_) (a' := ?_) #[true, true, true, true, true, true, true, true, true] rfl rfl (by kernel_rfl) (fun _ _ _ h => h) (Or.inl ⟨by rfl, ?_⟩) ?_ ?_
      rotate_left
      · intro w'
        go_simp
        with_reducible rfl
      rotate_left
      · simp only [Act.put, List.setIfInBounds_toArray, List.set_cons_zero, List.set_cons_succ, i64_w, i32_w]
        rfl
      refine done_ (by kernel_rfl) ?_
      go_wp2_with fail
      refine bodyPost_ret (results_tmp3 rfl _ _ _) rfl ?_
      exact ⟨_, _, rfl, R2.out.below BB.out.drew, R3.out.below BB.out.drew, B3.out.drew⟩
    · rw [if_neg hk]
      have ek : (t.f2.f0 != 1) = true := by simp [hk]
      clear hk
      go_enter Tryz.func23, Tryz.ntmps23
      go_wp2_with fail
      rw [← hW1]
      clear hW1
      refine K.mono ?_
      rintro e w2 ⟨E1, n1, m1, v2, v3, E4, n4, m4, i, p, rfl, hr2, hr3, hb⟩
      have B2 := Aside0.mk (B1.out.trans (hb.mono B1.out.size))
      obtain ⟨D2, d2, e2, l2_, x2⟩ := hr2
      obtain ⟨D3, d3, e3, l3_, x3⟩ := hr3
      subst e2 e3
      clear x2 x3 l2_ l3_ hb K
      go_wp2_with fail
      refine bodyPost_ret (results_tmp3 rfl _ _ _) rfl ?_
      exact ⟨_, _, rfl, VR.nil _, VR.nil _, B2.out.alloc B2.out.size _⟩
set_option maxRecDepth 100000 in
set_option maxHeartbeats 8000000 in
theorem rFuncType_calls (A0 : Option Addr) (c0 : Nat) (l0 : List S132) (A1 : Option Addr) (c1 : Nat) (l1 : List Int) (A2 : Option Addr) (c2 : Nat) (l2 : List S214) (A3 : Option Addr) (c3 : Nat) (l3 : List S212) (A4 : Option Addr) (c4 : Nat) (l4 : List S292) (A5 : Option Addr) (c5 : Nat) (l5 : List Int) (A6 : Option Addr) (c6 : Nat) (l6 : List S39) (d7 : Int) (A8 : Option Addr) (c8 : Nat) (l8 : List Bool) (n : Int) (w : World) (hx : XIn w A0 c0 l0 A1 c1 l1 A2 c2 l2 A3 c3 l3 A4 c4 l4 A5 c5 l5 A6 c6 l6 d7 A8 c8 l8) (hn : NV64 n) :
    Calls Tryz.prog 24 #[.agg #[.slice A0 l0.length c0, .slice A1 l1.length c1, .slice A2 l2.length c2, .slice A3 l3.length c3, .slice A4 l4.length c4, .slice A5 l5.length c5, .slice A6 l6.length c6, .int .i64 d7, .slice A8 l8.length c8], .int .i64 n] w (FtOut (ftV l0 n) w) := by
  obtain ⟨W1, hW1⟩ : ∃ W1, W1 = w.alloc (.cells #[.slice A0 l0.length c0, .slice A1 l1.length c1, .slice A2 l2.length c2, .slice A3 l3.length c3, .slice A4 l4.length c4, .slice A5 l5.length c5, .slice A6 l6.length c6, .int .i64 d7, .slice A8 l8.length c8] 30) := ⟨_, rfl⟩
  have b1 : Below w.heap.size w W1 := by rw [hW1]; exact (Below.refl _ _).alloc (Nat.le_refl _) _
  have B1 := Aside0.mk b1
  have K := rAt_calls A0 c0 l0 n W1 (Kd.C_below hx.r0 b1) hx.bulk hn
  clear b1 hx hn
  cases hs : atN l0 n with
  | none =>
    have EV : ftV l0 n = ([], [], 150) := by unfold ftV; rw [hs]
    rw [EV]
    rw [hs] at K
    clear hs EV
    go_enter Tryz.func24, Tryz.ntmps24
    go_wp2_with fail
    rw [← hW1]
    clear hW1
    refine K.mono ?_
    rintro e w2 ⟨rfl, hb⟩
    have B2 := Aside0.mk (B1.out.trans (hb.mono B1.out.size))
    clear hb K
    go_wp2_with fail
    refine bodyPost_ret (results_tmp3 rfl _ _ _) rfl ?_
    exact ⟨_, _, rfl, VR.nil _, VR.nil _, B2.out.alloc B2.out.size _⟩
  | some t =>
    have EV : ftV l0 n = if t.f2.f0 = 1 then (t.f2.f1, t.f2.f2, 0) else ([], [], 151) := by unfold ftV; rw [hs]
    rw [EV]
    rw [hs] at K
    clear hs EV
    by_cases hk : t.f2.f0 = 1
    · rw [if_pos hk]
      have ek : (t.f2.f0 != 1) = false := by simp [hk]
      clear hk
      go_enter Tryz.func24, Tryz.ntmps24
      go_wp2_with fail
      rw [← hW1]
      clear hW1
      refine K.mono ?_
      rintro e w2 ⟨E1, n1, m1, v2, v3, E4, n4, m4, i, p, rfl, hr2, hr3, hb⟩
      have B2 := Aside0.mk (B1.out.trans (hb.mono B1.out.size))
      have R2 := Aside0.mk hr2
      have R3 := Aside0.mk hr3
      obtain ⟨D2, d2, e2, l2_, x2⟩ := hr2
      obtain ⟨D3, d3, e3, l3_, x3⟩ := hr3
      subst e2 e3
      clear x2 x3 l2_ l3_ hb K
      obtain ⟨W3, hW3⟩ : ∃ W3, W3 = w2.alloc (.cells #[.bool t.f0, .slice E1 n1 m1, .int .i64 t.f2.f0, .slice D2 t.f2.f1.length d2, .slice D3 t.f2.f2.length d3, .slice E4 n4 m4] 123) := ⟨_, rfl⟩
      have B3 : Aside0 (Below w.heap.size w W3) := ⟨by rw [hW3]; exact B2.out.alloc B2.out.size _⟩
      have BB : Aside0 (Below w2.heap.size w2 W3) := ⟨by rw [hW3]; exact (Below.refl _ _).alloc (Nat.le_refl _) _⟩
      have hq : W3.heap[w2.heap.size]? = some (.cells #[.bool t.f0, .slice E1 n1 m1, .int .i64 t.f2.f0, .slice D2 t.f2.f1.length d2, .slice D3 t.f2.f2.length d3, .slice E4 n4 m4] 123 (0, 0)) := by rw [hW3]; exact blk_new w2 _
      have z3 : W3.cell? ⟨w2.heap.size, 3, none⟩ = some (.slice D2 t.f2.f1.length d2) := (blk_cell hq 3).trans rfl
      have z4 : W3.cell? ⟨w2.heap.size, 4, none⟩ = some (.slice D3 t.f2.f2.length d3) := (blk_cell hq 4).trans rfl
      clear hq
      go_wp2_with fail
      rw [← hW3]
      clear hW3
      refine start_ (n := 9) (S := fun w' => w'.cell? ⟨w2.heap.size, 3, none⟩ = some (.slice D2 t.f2.f1.length d2) ∧ w'.cell? ⟨w2.heap.size, 4, none⟩ = some (.slice D3 t.f2.f2.length d3)) (ds := []) #[false, false, false, false, false, false, false, false, false] (by kernel_rfl) rfl rfl ⟨z3, z4⟩ (fun hHeld => ?_)
      refine pure_ (i := 0) (N := some 26) (v := ?_) (a' := ?_) #[true, false, false, false, false, false, false, false, false] rfl rfl (by kernel_rfl) (fun _ _ _ h => h) (Or.inl ⟨by rfl, ?_⟩) ?_ ?_
      rotate_left
      · intro w'
        go_simp
        with_reducible rfl
      rotate_left
      · simp only [Act.put, List.setIfInBounds_toArray, List.set_cons_zero, List.set_cons_succ, i64_w, i32_w]
        rfl
      refine pure_ (i := 1) (N := some 27) (v := ?_) (a' := ?_) #[true, true, false, false, false, false, false, false, false] rfl rfl (by kernel_rfl) (fun _ _ _ h => h) (Or.inl ⟨by rfl, ?_⟩) ?_ ?_
      rotate_left
      · intro w'
        go_simp
        with_reducible rfl
      rotate_left
      · simp only [Act.put, List.setIfInBounds_toArray, List.set_cons_zero, List.set_cons_succ, i64_w, i32_w]
        rfl
      refine pure_ (i := 3) (N := some 29) (v := ?_) (a' := ?_) #[true, true, false, true, false, false, false, false, false] rfl rfl (by kernel_rfl) (fun _ _ _ h => h) (Or.inl ⟨by rfl, ?_⟩) ?_ ?_
      rotate_left
      · intro w'
        go_simp
        with_reducible rfl
      rotate_left
      · simp only [Act.put, List.setIfInBounds_toArray, List.set_cons_zero, List.set_cons_succ, i64_w, i32_w]
        rfl
      refine pure_ (i := 4) (N := some 30) (v := ?_) (a' := ?_) #[true, true, false, true, true, false, false, false, false] rfl rfl (by kernel_rfl) (fun _ _ _ h => h) (Or.inl ⟨by rfl, ?_⟩) ?_ ?_
      rotate_left
      · intro w'
        go_simp
        with_reducible rfl
      rotate_left
      · simp only [Act.put, List.setIfInBounds_toArray, List.set_cons_zero, List.set_cons_succ, i64_w, i32_w]
        rfl
      refine take_ (i := 2) (N := some 28) (v := ?_) (a' := ?_) #[true, true, true, true, true, false, false, false, false] rfl rfl (by kernel_rfl) (fun _ _ _ h => h) (Or.inl ⟨by rfl, ?_⟩) hHeld ?_ ?_
      rotate_left
      · rintro w' ⟨s0, s1⟩
        go_simp
        with_reducible rfl
      rotate_left
      · simp only [Act.put, List.setIfInBounds_toArray, List.set_cons_zero, List.set_cons_succ, i64_w, i32_w]
        rfl
      refine pure_ (i := 6) (N := some 4) (v := ?_) (a' := ?_) #[true, true, true, true, true, false, true, false, false] rfl rfl (by kernel_rfl) (fun _ _ _ h => h) (Or.inl ⟨by rfl, ?_⟩) ?_ ?_
      rotate_left
      · intro w'
        go_simp
        with_reducible rfl
      rotate_left
      · simp only [Act.put, List.setIfInBounds_toArray, List.set_cons_zero, List.set_cons_succ, i64_w, i32_w]
        rfl
      refine take_ (i := 5) (N := some 31) (v := ?_) (a' := ?_) #[true, true, true, true, true, true, true, false, false] rfl rfl (by kernel_rfl) (fun _ _ _ h => h) (Or.inl ⟨by rfl, ?_⟩) hHeld ?_ ?_
      rotate_left
      · rintro w' ⟨s0, s1⟩
        go_simp
        with_reducible rfl
      rotate_left
      · simp only [Act.put, List.setIfInBounds_toArray, List.set_cons_zero, List.set_cons_succ, i64_w, i32_w]
        rfl
      refine pure_ (i := 7) (N := some 5) (v := ?_) (a' := ?_) #[true, true, true, true, true, true, true, true, false] rfl rfl (by kernel_rfl) (fun _ _ _ h => h) (Or.inl ⟨by rfl, ?_⟩) ?_ ?_
      rotate_left
      · intro w'
        go_simp
        with_reducible rfl
      rotate_left
      · simp only [Act.put, List.setIfInBounds_toArray, List.set_cons_zero, List.set_cons_succ, i64_w, i32_w]
        rfl
      refine pure_ (i := 8) (N := some 6) (v := ?_) (a' := ?_) #[true, true, true, true, true, true, true, true, true] rfl rfl (by kernel_rfl) (fun _ _ _ h => h) (Or.inl ⟨by rfl, ?_⟩) ?_ ?_
      rotate_left
      · intro w'
        go_simp
        with_reducible rfl
      rotate_left
      · simp only [Act.put, List.setIfInBounds_toArray, List.set_cons_zero, List.set_cons_succ, i64_w, i32_w]
        rfl
      refine done_ (by kernel_rfl) ?_
      go_wp2_with fail
      refine bodyPost_ret (results_tmp3 rfl _ _ _) rfl ?_
      exact ⟨_, _, rfl, R2.out.below BB.out.drew, R3.out.below BB.out.drew, B3.out.drew⟩
    · rw [if_neg hk]
      have ek : (t.f2.f0 != 1) = true := by simp [hk]
      clear hk
      go_enter Tryz.func24, Tryz.ntmps24
      go_wp2_with fail
      rw [← hW1]
      clear hW1
      refine K.mono ?_
      rintro e w2 ⟨E1, n1, m1, v2, v3, E4, n4, m4, i, p, rfl, hr2, hr3, hb⟩
      have B2 := Aside0.mk (B1.out.trans (hb.mono B1.out.size))
      obtain ⟨D2, d2, e2, l2_, x2⟩ := hr2
      obtain ⟨D3, d3, e3, l3_, x3⟩ := hr3
      subst e2 e3
      clear x2 x3 l2_ l3_ hb K
      go_wp2_with fail
      refine bodyPost_ret (results_tmp3 rfl _ _ _) rfl ?_
      exact ⟨_, _, rfl, VR.nil _, VR.nil _, B2.out.alloc B2.out.size _⟩
set_option maxRecDepth 100000 in
set_option maxHeartbeats 8000000 in
theorem rBlockType_calls (A0 : Option Addr) (c0 : Nat) (l0 : List S132) (A1 : Option Addr) (c1 : Nat) (l1 : List Int) (A2 : Option Addr) (c2 : Nat) (l2 : List S214) (A3 : Option Addr) (c3 : Nat) (l3 : List S212) (A4 : Option Addr) (c4 : Nat) (l4 : List S292) (A5 : Option Addr) (c5 : Nat) (l5 : List Int) (A6 : Option Addr) (c6 : Nat) (l6 : List S39) (d7 : Int) (A8 : Option Addr) (c8 : Nat) (l8 : List Bool) (t : Int) (v : S39) (w : World) (hx : XIn w A0 c0 l0 A1 c1 l1 A2 c2 l2 A3 c3 l3 A4 c4 l4 A5 c5 l5 A6 c6 l6 d7 A8 c8 l8) (ht : NV64 t) :
    Calls Tryz.prog 12 #[.agg #[.slice A0 l0.length c0, .slice A1 l1.length c1, .slice A2 l2.length c2, .slice A3 l3.length c3, .slice A4 l4.length c4, .slice A5 l5.length c5, .slice A6 l6.length c6, .int .i64 d7, .slice A8 l8.length c8], .agg #[.int .i64 t, .int .i64 v.f0, .bool v.f1, .int .i64 v.f2]] w (FtOut (btV l0 t v) w) := by
  obtain ⟨W3, hW3⟩ : ∃ W3, W3 = ((w.alloc (.cells #[.slice A0 l0.length c0, .slice A1 l1.length c1, .slice A2 l2.length c2, .slice A3 l3.length c3, .slice A4 l4.length c4, .slice A5 l5.length c5, .slice A6 l6.length c6, .int .i64 d7, .slice A8 l8.length c8] 30)).alloc (.cells #[.int .i64 t, .int .i64 v.f0, .bool v.f1, .int .i64 v.f2] 41)) := ⟨_, rfl⟩
  have b3 : Below w.heap.size w W3 := by rw [hW3]; exact ((Below.refl _ _).alloc (Nat.le_refl _) _).alloc (by simp) _
  have B3 := Aside0.mk b3
  have HX := Aside0.mk (hx.below b3)
  have HT := Aside0.mk ht
  have hq0 : W3.heap[w.heap.size]? = some (.cells #[.slice A0 l0.length c0, .slice A1 l1.length c1, .slice A2 l2.length c2, .slice A3 l3.length c3, .slice A4 l4.length c4, .slice A5 l5.length c5, .slice A6 l6.length c6, .int .i64 d7, .slice A8 l8.length c8] 30 (0, 0)) := by rw [hW3]; exact blk_alloc (blk_new w _) _
  have hq1 : W3.heap[w.heap.size + 1]? = some (.cells #[.int .i64 t, .int .i64 v.f0, .bool v.f1, .int .i64 v.f2] 41 (0, 0)) := by rw [hW3]; have h_ := blk_new (w.alloc (.cells #[.slice A0 l0.length c0, .slice A1 l1.length c1, .slice A2 l2.length c2, .slice A3 l3.length c3, .slice A4 l4.length c4, .slice A5 l5.length c5, .slice A6 l6.length c6, .int .i64 d7, .slice A8 l8.length c8] 30)) (.cells #[.int .i64 t, .int .i64 v.f0, .bool v.f1, .int .i64 v.f2] 41); rw [World.size_alloc] at h_; exact h_
  have HQ := Aside0.mk (And.intro hq0 hq1)
  clear b3 hx ht hq0 hq1
  by_cases h0 : 0 ≤ t
  · have EV : btV l0 t v = ftV l0 t := by unfold btV; rw [if_pos h0]
    rw [EV]
    clear EV
    have K := rFuncType_calls A0 c0 l0 A1 c1 l1 A2 c2 l2 A3 c3 l3 A4 c4 l4 A5 c5 l5 A6 c6 l6 d7 A8 c8 l8 t W3 HX.out HT.out
    go_enter Tryz.func12, Tryz.ntmps12
    go_wp2_with fail
    rw [← hW3]
    clear hW3
    refine K.mono ?_
    rintro e w4 ⟨v1, v2, rfl, R1, R2, hb⟩
    have B4 := Aside0.mk (B3.out.trans (hb.mono B3.out.size))
    have RR := Aside0.mk (And.intro R1 R2)
    clear hb K R1 R2
    go_wp2_with fail
    refine bodyPost_ret (results_tmp3 rfl _ _ _) rfl ?_
    exact ⟨_, _, rfl, RR.out.1, RR.out.2, B4.out⟩
  have h0' : t < 0 := by omega
  by_cases z0 : v.f0 = 0
  · have EV : btV l0 t v = ([], [], 0) := by unfold btV; rw [if_neg h0, if_pos z0]
    rw [EV]
    have ez : (v.f0 == 0) = true := by simp [z0]
    clear EV z0 h0
    go_enter Tryz.func12, Tryz.ntmps12
    go_wp2_with fail
    rw [← hW3]
    clear hW3
    refine bodyPost_ret (results_tmp3 rfl _ _ _) rfl ?_
    exact ⟨_, _, rfl, VR.nil _, VR.nil _, B3.out⟩
  have ez : (v.f0 == 0) = false := by simp [z0]
  obtain ⟨K14⟩ : Aside0 (Calls Tryz.prog 41 #[.agg #[.slice A0 l0.length c0, .slice A1 l1.length c1, .slice A2 l2.length c2, .slice A3 l3.length c3, .slice A4 l4.length c4, .slice A5 l5.length c5, .slice A6 l6.length c6, .int .i64 d7, .slice A8 l8.length c8], .agg #[.int .i64 v.f0, .bool v.f1, .int .i64 v.f2]] W3 fun e w' => e = .returned (.bool (!decide (v.f0 = 5 ∧ (v.f2 < -12 ∨ (vcount l0 : Int) ≤ v.f2)))) ∧ Below W3.heap.size W3 w') := ⟨ratchetref14_Known.calls _ A0 c0 l0 A1 c1 l1 A2 c2 l2 A3 c3 l3 A4 c4 l4 A5 c5 l5 A6 c6 l6 d7 A8 c8 l8 v.f0 v.f1 v.f2 _ W3 HX.out.r0 HX.out.h0 HX.out.r1 HX.out.h1 HX.out.r2 HX.out.h2 HX.out.r3 HX.out.h3 HX.out.r4 HX.out.h4 HX.out.r5 HX.out.h5 HX.out.r6 HX.out.h6 HX.out.r8 HX.out.h8 (knR l0 l1 l2 l3 l4 l5 l6 d7 l8 HX.out.bulk v)⟩
  by_cases hk : v.f0 = 5 ∧ (v.f2 < -12 ∨ (vcount l0 : Int) ≤ v.f2)
  · have EV : btV l0 t v = ([], [], 150) := by unfold btV; rw [if_neg h0, if_neg z0, if_pos hk]
    have ek : decide (v.f0 = 5 ∧ (v.f2 < -12 ∨ (vcount l0 : Int) ≤ v.f2)) = true := by simpa using hk
    rw [EV]
    rw [ek] at K14
    clear EV ek hk z0 h0
    go_enter Tryz.func12, Tryz.ntmps12
    go_wp2_with fail
    rw [← hW3]
    clear hW3
    refine K14.mono ?_
    rintro e w4 ⟨rfl, hb⟩
    have B4 := Aside0.mk (B3.out.trans (hb.mono B3.out.size))
    clear hb K14
    go_wp2_with fail
    refine bodyPost_ret (results_tmp3 rfl _ _ _) rfl ?_
    exact ⟨_, _, rfl, VR.nil _, VR.nil _, B4.out⟩
  have EV : btV l0 t v = ([], [v], 0) := by unfold btV; rw [if_neg h0, if_neg z0, if_neg hk]
  have ek : decide (v.f0 = 5 ∧ (v.f2 < -12 ∨ (vcount l0 : Int) ≤ v.f2)) = false := by simpa using hk
  rw [EV]
  rw [ek] at K14
  clear EV ek hk z0 h0
  go_enter Tryz.func12, Tryz.ntmps12
  go_wp2_with fail
  rw [← hW3]
  clear hW3
  refine K14.mono ?_
  rintro e w4 ⟨rfl, hb⟩
  have B4 := Aside0.mk (B3.out.trans (hb.mono B3.out.size))
  have u1 : w4.cell? ⟨w.heap.size + 1, 1, none⟩ = some (.int .i64 v.f0) := (blk_cell (blk_below HQ.out.2 hb) 1).trans rfl
  have u2 : w4.cell? ⟨w.heap.size + 1, 2, none⟩ = some (.bool v.f1) := (blk_cell (blk_below HQ.out.2 hb) 2).trans rfl
  have u3 : w4.cell? ⟨w.heap.size + 1, 3, none⟩ = some (.int .i64 v.f2) := (blk_cell (blk_below HQ.out.2 hb) 3).trans rfl
  clear hb K14
  go_wp2_with fail
  refine start_ (n := 6) (S := fun w' => w'.cell? ⟨w.heap.size + 1, 1, none⟩ = some (.int .i64 v.f0) ∧ w'.cell? ⟨w.heap.size + 1, 2, none⟩ = some (.bool v.f1) ∧ w'.cell? ⟨w.heap.size + 1, 3, none⟩ = some (.int .i64 v.f2)) (ds := []) #[false, false, false, false, false, false] (by kernel_rfl) rfl rfl ⟨u1, u2, u3⟩ (fun hHeld => ?_)
  have BD : Aside0 (Below w.heap.size w w4.drew) := ⟨B4.out.drew⟩
  replace u1 : w4.drew.cell? _ = _ := u1
  replace u2 : w4.drew.cell? _ = _ := u2
  replace u3 : w4.drew.cell? _ = _ := u3
  generalize w4.drew = w5 at BD u1 u2 u3 hHeld ⊢
  refine pure_ (i := 0) (N := some 26) (v := ?_) (a' := ?_) #[true, false, false, false, false, false] rfl rfl (by kernel_rfl) (fun _ _ _ h => h) (Or.inl ⟨by rfl, ?_⟩) ?_ ?_
  rotate_left
  · intro w'
    go_simp
    with_reducible rfl
  rotate_left
  · simp only [Act.put, List.setIfInBounds_toArray, List.set_cons_zero, List.set_cons_succ, i64_w, i32_w]
    rfl
  refine pure_ (i := 3) (N := some 4) (v := ?_) (a' := ?_) #[true, false, false, true, false, false] rfl rfl (by kernel_rfl) (fun _ _ _ h => h) (Or.inl ⟨by rfl, ?_⟩) ?_ ?_
  rotate_left
  · intro w'
    go_simp
    with_reducible rfl
  rotate_left
  · simp only [Act.put, List.setIfInBounds_toArray, List.set_cons_zero, List.set_cons_succ, i64_w, i32_w]
    rfl
  refine take_ (i := 1) (N := some 27) (v := ?_) (a' := ?_) #[true, true, false, true, false, false] rfl rfl (by kernel_rfl) (fun _ _ _ h => h) (Or.inl ⟨by rfl, ?_⟩) hHeld ?_ ?_
  rotate_left
  · rintro w' ⟨s0, s1, s2⟩
    go_simp
    with_reducible rfl
  rotate_left
  · simp only [Act.put, List.setIfInBounds_toArray, List.set_cons_zero, List.set_cons_succ, i64_w, i32_w]
    rfl
  refine one_ (i := 2) (N := some 28) #[true, true, true, true, false, false] rfl rfl (by kernel_rfl) (by decide) (fun K hK => ?_)
  refine value_ (w1 := ?_) (v := ?_) (by rfl) rfl ?_ ?_
  rotate_left 2
  · go_simp
    constructor
    · rfl
    · rfl
  refine hK.out _ _ ⟨(((Below.refl _ _).alloc (Nat.le_refl _) _).cell (World.block_lt_of_cell? w5 _ u1)).trans u1, (((Below.refl _ _).alloc (Nat.le_refl _) _).cell (World.block_lt_of_cell? w5 _ u2)).trans u2, (((Below.refl _ _).alloc (Nat.le_refl _) _).cell (World.block_lt_of_cell? w5 _ u3)).trans u3⟩ (fun hHeld => ?_)
  clear hK K
  refine norm_ (a' := ?_) ?_ ?_
  rotate_left
  · show Act.put _ (some 28) _ = _
    simp only [Act.put, List.setIfInBounds_toArray, List.set_cons_zero, List.set_cons_succ, i64_w, i32_w]
    rfl
  refine pure_ (i := 4) (N := some 5) (v := ?_) (a' := ?_) #[true, true, true, true, true, false] rfl rfl (by kernel_rfl) (fun _ _ _ h => h) (Or.inl ⟨by rfl, ?_⟩) ?_ ?_
  rotate_left
  · intro w'
    go_simp
    with_reducible rfl
  rotate_left
  · simp only [Act.put, List.setIfInBounds_toArray, List.set_cons_zero, List.set_cons_succ, i64_w, i32_w]
    rfl
  refine pure_ (i := 5) (N := some 6) (v := ?_) (a' := ?_) #[true, true, true, true, true, true] rfl rfl (by kernel_rfl) (fun _ _ _ h => h) (Or.inl ⟨by rfl, ?_⟩) ?_ ?_
  rotate_left
  · intro w'
    go_simp
    with_reducible rfl
  rotate_left
  · simp only [Act.put, List.setIfInBounds_toArray, List.set_cons_zero, List.set_cons_succ, i64_w, i32_w]
    rfl
  refine done_ (by kernel_rfl) ?_
  go_wp2_with fail
  refine bodyPost_ret (results_tmp3 rfl _ _ _) rfl ?_
  exact ⟨_, _, rfl, VR.nil _, VR.one w5 v _, BD.out.alloc BD.out.size _⟩
set_option maxRecDepth 100000 in
set_option maxHeartbeats 8000000 in
theorem vBlockType_calls (A0 : Option Addr) (c0 : Nat) (l0 : List S132) (A1 : Option Addr) (c1 : Nat) (l1 : List Int) (A2 : Option Addr) (c2 : Nat) (l2 : List S214) (A3 : Option Addr) (c3 : Nat) (l3 : List S212) (A4 : Option Addr) (c4 : Nat) (l4 : List S292) (A5 : Option Addr) (c5 : Nat) (l5 : List Int) (A6 : Option Addr) (c6 : Nat) (l6 : List S39) (d7 : Int) (A8 : Option Addr) (c8 : Nat) (l8 : List Bool) (t : Int) (v : S39) (w : World) (hx : XIn w A0 c0 l0 A1 c1 l1 A2 c2 l2 A3 c3 l3 A4 c4 l4 A5 c5 l5 A6 c6 l6 d7 A8 c8 l8) (ht : NV64 t) :
    Calls Tryz.prog 25 #[.agg #[.slice A0 l0.length c0, .slice A1 l1.length c1, .slice A2 l2.length c2, .slice A3 l3.length c3, .slice A4 l4.length c4, .slice A5 l5.length c5, .slice A6 l6.length c6, .int .i64 d7, .slice A8 l8.length c8], .agg #[.int .i64 t, .int .i64 v.f0, .bool v.f1, .int .i64 v.f2]] w (FtOut (btV l0 t v) w) := by
  obtain ⟨W3, hW3⟩ : ∃ W3, W3 = (((w.alloc (.cells #[.slice A0 l0.length c0, .slice A1 l1.length c1, .slice A2 l2.length c2, .slice A3 l3.length c3, .slice A4 l4.length c4, .slice A5 l5.length c5, .slice A6 l6.length c6, .int .i64 d7, .slice A8 l8.length c8] 30)).alloc (.cells #[.int .i64 t, .int .i64 v.f0, .bool v.f1, .int .i64 v.f2] 41)).alloc (.cells #[.int .i64 v.f0, .bool v.f1, .int .i64 v.f2] 39)) := ⟨_, rfl⟩
  have b3 : Below w.heap.size w W3 := by rw [hW3]; exact (((Below.refl _ _).alloc (Nat.le_refl _) _).alloc (by simp) _).alloc (by simp; omega) _
  have B3 := Aside0.mk b3
  have HX := Aside0.mk (hx.below b3)
  have HT := Aside0.mk ht
  have hq0 : W3.heap[w.heap.size]? = some (.cells #[.slice A0 l0.length c0, .slice A1 l1.length c1, .slice A2 l2.length c2, .slice A3 l3.length c3, .slice A4 l4.length c4, .slice A5 l5.length c5, .slice A6 l6.length c6, .int .i64 d7, .slice A8 l8.length c8] 30 (0, 0)) := by rw [hW3]; exact blk_alloc (blk_alloc (blk_new w _) _) _
  have hq1 : W3.heap[w.heap.size + 1]? = some (.cells #[.int .i64 t, .int .i64 v.f0, .bool v.f1, .int .i64 v.f2] 41 (0, 0)) := by rw [hW3]; have h_ := blk_alloc (blk_new (w.alloc (.cells #[.slice A0 l0.length c0, .slice A1 l1.length c1, .slice A2 l2.length c2, .slice A3 l3.length c3, .slice A4 l4.length c4, .slice A5 l5.length c5, .slice A6 l6.length c6, .int .i64 d7, .slice A8 l8.length c8] 30)) (.cells #[.int .i64 t, .int .i64 v.f0, .bool v.f1, .int .i64 v.f2] 41)) (.cells #[.int .i64 v.f0, .bool v.f1, .int .i64 v.f2] 39); rw [World.size_alloc] at h_; exact h_
  have HQ := Aside0.mk (And.intro hq0 hq1)
  have hq2 : W3.heap[w.heap.size + 1 + 1]? = some (.cells #[.int .i64 v.f0, .bool v.f1, .int .i64 v.f2] 39 (0, 0)) := by rw [hW3]; have h_ := blk_new ((w.alloc (.cells #[.slice A0 l0.length c0, .slice A1 l1.length c1, .slice A2 l2.length c2, .slice A3 l3.length c3, .slice A4 l4.length c4, .slice A5 l5.length c5, .slice A6 l6.length c6, .int .i64 d7, .slice A8 l8.length c8] 30)).alloc (.cells #[.int .i64 t, .int .i64 v.f0, .bool v.f1, .int .i64 v.f2] 41)) (.cells #[.int .i64 v.f0, .bool v.f1, .int .i64 v.f2] 39); rw [World.size_alloc, World.size_alloc] at h_; exact h_
  have HQ2 := Aside0.mk hq2
  clear hq2
  clear b3 hx ht hq0 hq1
  by_cases h0 : 0 ≤ t
  · have EV : btV l0 t v = ftV l0 t := by unfold btV; rw [if_pos h0]
    rw [EV]
    clear EV
    have K := vFuncType_calls A0 c0 l0 A1 c1 l1 A2 c2 l2 A3 c3 l3 A4 c4 l4 A5 c5 l5 A6 c6 l6 d7 A8 c8 l8 t W3 HX.out HT.out
    go_enter Tryz.func25, Tryz.ntmps25
    go_wp2_with fail
    rw [← hW3]
    clear hW3
    refine K.mono ?_
    rintro e w4 ⟨v1, v2, rfl, R1, R2, hb⟩
    have B4 := Aside0.mk (B3.out.trans (hb.mono B3.out.size))
    have RR := Aside0.mk (And.intro R1 R2)
    clear hb K R1 R2
    go_wp2_with fail
    refine bodyPost_ret (results_tmp3 rfl _ _ _) rfl ?_
    exact ⟨_, _, rfl, RR.out.1, RR.out.2, B4.out⟩
  have h0' : t < 0 := by omega
  by_cases z0 : v.f0 = 0
  · have EV : btV l0 t v = ([], [], 0) := by unfold btV; rw [if_neg h0, if_pos z0]
    rw [EV]
    have ez : (v.f0 == 0) = true := by simp [z0]
    clear EV z0 h0
    go_enter Tryz.func25, Tryz.ntmps25
    go_wp2_with fail
    rw [← hW3]
    clear hW3
    refine bodyPost_ret (results_tmp3 rfl _ _ _) rfl ?_
    exact ⟨_, _, rfl, VR.nil _, VR.nil _, B3.out⟩
  have ez : (v.f0 == 0) = false := by simp [z0]
  have VP := HX.out.bulk
  have u0 : W3.cell? ⟨w.heap.size + 1 + 1, 0, none⟩ = some (.int .i64 v.f0) := (blk_cell HQ2.out 0).trans rfl
  have u2 : W3.cell? ⟨w.heap.size + 1 + 1, 2, none⟩ = some (.int .i64 v.f2) := (blk_cell HQ2.out 2).trans rfl
  have ux : W3.cell? ⟨w.heap.size, 0, none⟩ = some (.slice A0 l0.length c0) := (blk_cell HQ.out.1 0).trans rfl
  have HB := Aside0.mk VP
  clear VP
  by_cases h5 : v.f0 = 5
  · have e5 : (v.f0 == 5) = true := by simp [h5]
    by_cases h12 : v.f2 < -12
    · have EV : btV l0 t v = ([], [], 150) := by unfold btV; rw [if_neg h0, if_neg z0, if_pos ⟨h5, .inl h12⟩]
      rw [EV]
      have e12 : decide (v.f2 < -12) = true := by simp [h12]
      clear EV z0 h0 h5
      go_enter Tryz.func25, Tryz.ntmps25
      go_wp2_with fail
      rw [← hW3]
      clear hW3
      refine start_ (n := 17) (S := fun w' => w'.cell? ⟨w.heap.size + 1 + 1, 0, none⟩ = some (.int .i64 v.f0) ∧ w'.cell? ⟨w.heap.size + 1 + 1, 2, none⟩ = some (.int .i64 v.f2) ∧ w'.cell? ⟨w.heap.size, 0, none⟩ = some (.slice A0 l0.length c0)) (ds := []) #[false, false, false, false, false, false, false, false, false, false, false, false, false, false, false, false, false] (by kernel_rfl) rfl rfl ⟨u0, u2, ux⟩ (fun hHeld => ?_)
      have BD : Aside0 (Below w.heap.size w W3.drew) := ⟨B3.out.drew⟩
      have HX5 : Aside0 (XIn W3.drew A0 c0 l0 A1 c1 l1 A2 c2 l2 A3 c3 l3 A4 c4 l4 A5 c5 l5 A6 c6 l6 d7 A8 c8 l8) := ⟨HX.out.below (Below.refl _ _).drew⟩
      have HQ5 : Aside0 (W3.drew.heap[w.heap.size + 1 + 1]? = some (.cells #[.int .i64 v.f0, .bool v.f1, .int .i64 v.f2] 39 (0, 0))) := ⟨HQ2.out⟩
      replace u0 : W3.drew.cell? _ = _ := u0
      replace u2 : W3.drew.cell? _ = _ := u2
      replace ux : W3.drew.cell? _ = _ := ux
      generalize W3.drew = w5 at BD HX5 HQ5 u0 u2 ux hHeld ⊢
      refine pure_ (i := 0) (N := some 26) (v := ?_) (a' := ?_) #[true, false, false, false, false, false, false, false, false, false, false, false, false, false, false, false, false] rfl rfl (by kernel_rfl) (fun _ _ _ h => h) (Or.inl ⟨by rfl, ?_⟩) ?_ ?_
      rotate_left
      · intro w'
        go_simp
        with_reducible rfl
      rotate_left
      · simp only [Act.put, List.setIfInBounds_toArray, List.set_cons_zero, List.set_cons_succ, i64_w, i32_w]
        rfl
      refine take_ (i := 1) (N := some 27) (v := ?_) (a' := ?_) #[true, true, false, false, false, false, false, false, false, false, false, false, false, false, false, false, false] rfl rfl (by kernel_rfl) (fun _ _ _ h => h) (Or.inl ⟨by rfl, ?_⟩) hHeld ?_ ?_
      rotate_left
      · rintro w' ⟨s0, s1, s2⟩
        go_simp
        with_reducible rfl
      rotate_left
      · simp only [Act.put, List.setIfInBounds_toArray, List.set_cons_zero, List.set_cons_succ, i64_w, i32_w]
        rfl
      refine pure_ (i := 2) (N := some 28) (v := ?_) (a' := ?_) #[true, true, true, false, false, false, false, false, false, false, false, false, false, false, false, false, false] rfl rfl (by kernel_rfl) (fun _ _ _ h => h) (Or.inl ⟨by rfl, ?_⟩) ?_ ?_
      rotate_left
      · intro w'
        go_simp
        with_reducible rfl
      rotate_left
      · simp only [Act.put, List.setIfInBounds_toArray, List.set_cons_zero, List.set_cons_succ, i64_w, i32_w]
        rfl
      refine pure_ (i := 3) (N := some 29) (v := ?_) (a' := ?_) #[true, true, true, true, false, false, false, false, false, false, false, false, false, false, false, false, false] rfl rfl (by kernel_rfl) (fun _ _ _ h => h) (Or.inl ⟨by rfl, ?_⟩) ?_ ?_
      rotate_left
      · intro w'
        go_simp
        with_reducible rfl
      rotate_left
      · simp only [Act.put, List.setIfInBounds_toArray, List.set_cons_zero, List.set_cons_succ, i64_w, i32_w]
        rfl
      refine pure_ (i := 4) (N := some 30) (v := ?_) (a' := ?_) #[true, true, true, true, true, false, false, false, false, false, false, false, false, false, false, false, false] rfl rfl (by kernel_rfl) (fun _ _ _ h => h) (Or.inl ⟨by rfl, ?_⟩) ?_ ?_
      rotate_left
      · intro w'
        go_simp
        with_reducible rfl
      rotate_left
      · simp only [Act.put, List.setIfInBounds_toArray, List.set_cons_zero, List.set_cons_succ, i64_w, i32_w]
        rfl
      refine take_ (i := 5) (N := some 31) (v := ?_) (a' := ?_) #[true, true, true, true, true, true, false, false, false, false, false, false, false, false, false, false, false] rfl rfl (by kernel_rfl) (fun _ _ _ h => h) (Or.inl ⟨by rfl, ?_⟩) hHeld ?_ ?_
      rotate_left
      · rintro w' ⟨s0, s1, s2⟩
        go_simp
        with_reducible rfl
      rotate_left
      · simp only [Act.put, List.setIfInBounds_toArray, List.set_cons_zero, List.set_cons_succ, i64_w, i32_w]
        rfl
      refine pure_ (i := 6) (N := some 32) (v := ?_) (a' := ?_) #[true, true, true, true, true, true, true, false, false, false, false, false, false, false, false, false, false] rfl rfl (by kernel_rfl) (fun _ _ _ h => h) (Or.inl ⟨by rfl, ?_⟩) ?_ ?_
      rotate_left
      · intro w'
        go_simp
        with_reducible rfl
      rotate_left
      · simp only [Act.put, List.setIfInBounds_toArray, List.set_cons_zero, List.set_cons_succ, i64_w, i32_w]
        rfl
      refine pure_ (i := 7) (N := some 33) (v := ?_) (a' := ?_) #[true, true, true, true, true, true, true, true, false, false, false, false, false, false, false, false, false] rfl rfl (by kernel_rfl) (fun _ _ _ h => h) (Or.inl ⟨by rfl, ?_⟩) ?_ ?_
      rotate_left
      · intro w'
        go_simp
        with_reducible rfl
      rotate_left
      · simp only [Act.put, List.setIfInBounds_toArray, List.set_cons_zero, List.set_cons_succ, i64_w, i32_w]
        rfl
      refine pure_ (i := 8) (N := some 34) (v := undef) (a' := ?_) #[true, true, true, true, true, true, true, true, true, false, false, false, false, false, false, false, false] rfl rfl (by kernel_rfl) (fun _ _ _ h => h) (Or.inr ⟨by rfl, rfl⟩) ?_ ?_
      rotate_left
      · simp only [Act.put, List.setIfInBounds_toArray, List.set_cons_zero, List.set_cons_succ, i64_w, i32_w]
        rfl
      refine pure_ (i := 9) (N := some 35) (v := undef) (a' := ?_) #[true, true, true, true, true, true, true, true, true, true, false, false, false, false, false, false, false] rfl rfl (by kernel_rfl) (fun _ _ _ h => h) (Or.inr ⟨by rfl, rfl⟩) ?_ ?_
      rotate_left
      · simp only [Act.put, List.setIfInBounds_toArray, List.set_cons_zero, List.set_cons_succ, i64_w, i32_w]
        rfl
      refine pure_ (i := 10) (N := some 36) (v := undef) (a' := ?_) #[true, true, true, true, true, true, true, true, true, true, true, false, false, false, false, false, false] rfl rfl (by kernel_rfl) (fun _ _ _ h => h) (Or.inr ⟨by rfl, rfl⟩) ?_ ?_
      rotate_left
      · simp only [Act.put, List.setIfInBounds_toArray, List.set_cons_zero, List.set_cons_succ, i64_w, i32_w]
        rfl
      refine pure_ (i := 11) (N := some 37) (v := undef) (a' := ?_) #[true, true, true, true, true, true, true, true, true, true, true, true, false, false, false, false, false] rfl rfl (by kernel_rfl) (fun _ _ _ h => h) (Or.inr ⟨by rfl, rfl⟩) ?_ ?_
      rotate_left
      · simp only [Act.put, List.setIfInBounds_toArray, List.set_cons_zero, List.set_cons_succ, i64_w, i32_w]
        rfl
      refine pure_ (i := 12) (N := some 38) (v := undef) (a' := ?_) #[true, true, true, true, true, true, true, true, true, true, true, true, true, false, false, false, false] rfl rfl (by kernel_rfl) (fun _ _ _ h => h) (Or.inr ⟨by rfl, rfl⟩) ?_ ?_
      rotate_left
      · simp only [Act.put, List.setIfInBounds_toArray, List.set_cons_zero, List.set_cons_succ, i64_w, i32_w]
        rfl
      refine pure_ (i := 13) (N := some 39) (v := undef) (a' := ?_) #[true, true, true, true, true, true, true, true, true, true, true, true, true, true, false, false, false] rfl rfl (by kernel_rfl) (fun _ _ _ h => h) (Or.inr ⟨by rfl, rfl⟩) ?_ ?_
      rotate_left
      · simp only [Act.put, List.setIfInBounds_toArray, List.set_cons_zero, List.set_cons_succ, i64_w, i32_w]
        rfl
      refine pure_ (i := 14) (N := some 40) (v := ?_) (a' := ?_) #[true, true, true, true, true, true, true, true, true, true, true, true, true, true, true, false, false] rfl rfl (by kernel_rfl) (fun _ _ _ h => h) (Or.inl ⟨by rfl, ?_⟩) ?_ ?_
      rotate_left
      · intro w'
        go_simp
        with_reducible rfl
      rotate_left
      · simp only [Act.put, List.setIfInBounds_toArray, List.set_cons_zero, List.set_cons_succ, i64_w, i32_w]
        rfl
      refine pure_ (i := 15) (N := some 41) (v := ?_) (a' := ?_) #[true, true, true, true, true, true, true, true, true, true, true, true, true, true, true, true, false] rfl rfl (by kernel_rfl) (fun _ _ _ h => h) (Or.inl ⟨by rfl, ?_⟩) ?_ ?_
      rotate_left
      · intro w'
        go_simp
        with_reducible rfl
      rotate_left
      · simp only [Act.put, List.setIfInBounds_toArray, List.set_cons_zero, List.set_cons_succ, i64_w, i32_w]
        rfl
      refine pure_ (i := 16) (N := some 25) (v := ?_) (a' := ?_) #[true, true, true, true, true, true, true, true, true, true, true, true, true, true, true, true, true] rfl rfl (by kernel_rfl) (fun _ _ _ h => h) (Or.inl ⟨by rfl, ?_⟩) ?_ ?_
      rotate_left
      · intro w'
        go_simp
        with_reducible rfl
      rotate_left
      · simp only [Act.put, List.setIfInBounds_toArray, List.set_cons_zero, List.set_cons_succ, i64_w, i32_w]
        rfl
      refine done_ (by kernel_rfl) ?_
      clear u0 u2 ux hHeld
      go_wp2_with fail
      refine bodyPost_ret (results_tmp3 rfl _ _ _) rfl ?_
      exact ⟨_, _, rfl, VR.nil _, VR.nil _, BD.out⟩
    have e12 : decide (v.f2 < -12) = false := by simp; omega
    by_cases hc : (vcount l0 : Int) ≤ v.f2
    · have EV : btV l0 t v = ([], [], 150) := by unfold btV; rw [if_neg h0, if_neg z0, if_pos ⟨h5, .inr hc⟩]
      rw [EV]
      have ec : decide ((vcount l0 : Int) ≤ v.f2) = true := by simp [hc]
      clear EV z0 h0 h5 h12
      go_enter Tryz.func25, Tryz.ntmps25
      go_wp2_with fail
      rw [← hW3]
      clear hW3
      refine start_ (n := 17) (S := fun w' => w'.cell? ⟨w.heap.size + 1 + 1, 0, none⟩ = some (.int .i64 v.f0) ∧ w'.cell? ⟨w.heap.size + 1 + 1, 2, none⟩ = some (.int .i64 v.f2) ∧ w'.cell? ⟨w.heap.size, 0, none⟩ = some (.slice A0 l0.length c0)) (ds := []) #[false, false, false, false, false, false, false, false, false, false, false, false, false, false, false, false, false] (by kernel_rfl) rfl rfl ⟨u0, u2, ux⟩ (fun hHeld => ?_)
      have BD : Aside0 (Below w.heap.size w W3.drew) := ⟨B3.out.drew⟩
      have HX5 : Aside0 (XIn W3.drew A0 c0 l0 A1 c1 l1 A2 c2 l2 A3 c3 l3 A4 c4 l4 A5 c5 l5 A6 c6 l6 d7 A8 c8 l8) := ⟨HX.out.below (Below.refl _ _).drew⟩
      have HQ5 : Aside0 (W3.drew.heap[w.heap.size + 1 + 1]? = some (.cells #[.int .i64 v.f0, .bool v.f1, .int .i64 v.f2] 39 (0, 0))) := ⟨HQ2.out⟩
      replace u0 : W3.drew.cell? _ = _ := u0
      replace u2 : W3.drew.cell? _ = _ := u2
      replace ux : W3.drew.cell? _ = _ := ux
      generalize W3.drew = w5 at BD HX5 HQ5 u0 u2 ux hHeld ⊢
      refine pure_ (i := 0) (N := some 26) (v := ?_) (a' := ?_) #[true, false, false, false, false, false, false, false, false, false, false, false, false, false, false, false, false] rfl rfl (by kernel_rfl) (fun _ _ _ h => h) (Or.inl ⟨by rfl, ?_⟩) ?_ ?_
      rotate_left
      · intro w'
        go_simp
        with_reducible rfl
      rotate_left
      · simp only [Act.put, List.setIfInBounds_toArray, List.set_cons_zero, List.set_cons_succ, i64_w, i32_w]
        rfl
      refine take_ (i := 1) (N := some 27) (v := ?_) (a' := ?_) #[true, true, false, false, false, false, false, false, false, false, false, false, false, false, false, false, false] rfl rfl (by kernel_rfl) (fun _ _ _ h => h) (Or.inl ⟨by rfl, ?_⟩) hHeld ?_ ?_
      rotate_left
      · rintro w' ⟨s0, s1, s2⟩
        go_simp
        with_reducible rfl
      rotate_left
      · simp only [Act.put, List.setIfInBounds_toArray, List.set_cons_zero, List.set_cons_succ, i64_w, i32_w]
        rfl
      refine pure_ (i := 2) (N := some 28) (v := ?_) (a' := ?_) #[true, true, true, false, false, false, false, false, false, false, false, false, false, false, false, false, false] rfl rfl (by kernel_rfl) (fun _ _ _ h => h) (Or.inl ⟨by rfl, ?_⟩) ?_ ?_
      rotate_left
      · intro w'
        go_simp
        with_reducible rfl
      rotate_left
      · simp only [Act.put, List.setIfInBounds_toArray, List.set_cons_zero, List.set_cons_succ, i64_w, i32_w]
        rfl
      refine pure_ (i := 3) (N := some 29) (v := ?_) (a' := ?_) #[true, true, true, true, false, false, false, false, false, false, false, false, false, false, false, false, false] rfl rfl (by kernel_rfl) (fun _ _ _ h => h) (Or.inl ⟨by rfl, ?_⟩) ?_ ?_
      rotate_left
      · intro w'
        go_simp
        with_reducible rfl
      rotate_left
      · simp only [Act.put, List.setIfInBounds_toArray, List.set_cons_zero, List.set_cons_succ, i64_w, i32_w]
        rfl
      refine pure_ (i := 4) (N := some 30) (v := ?_) (a' := ?_) #[true, true, true, true, true, false, false, false, false, false, false, false, false, false, false, false, false] rfl rfl (by kernel_rfl) (fun _ _ _ h => h) (Or.inl ⟨by rfl, ?_⟩) ?_ ?_
      rotate_left
      · intro w'
        go_simp
        with_reducible rfl
      rotate_left
      · simp only [Act.put, List.setIfInBounds_toArray, List.set_cons_zero, List.set_cons_succ, i64_w, i32_w]
        rfl
      refine take_ (i := 5) (N := some 31) (v := ?_) (a' := ?_) #[true, true, true, true, true, true, false, false, false, false, false, false, false, false, false, false, false] rfl rfl (by kernel_rfl) (fun _ _ _ h => h) (Or.inl ⟨by rfl, ?_⟩) hHeld ?_ ?_
      rotate_left
      · rintro w' ⟨s0, s1, s2⟩
        go_simp
        with_reducible rfl
      rotate_left
      · simp only [Act.put, List.setIfInBounds_toArray, List.set_cons_zero, List.set_cons_succ, i64_w, i32_w]
        rfl
      refine pure_ (i := 6) (N := some 32) (v := ?_) (a' := ?_) #[true, true, true, true, true, true, true, false, false, false, false, false, false, false, false, false, false] rfl rfl (by kernel_rfl) (fun _ _ _ h => h) (Or.inl ⟨by rfl, ?_⟩) ?_ ?_
      rotate_left
      · intro w'
        go_simp
        with_reducible rfl
      rotate_left
      · simp only [Act.put, List.setIfInBounds_toArray, List.set_cons_zero, List.set_cons_succ, i64_w, i32_w]
        rfl
      refine pure_ (i := 7) (N := some 33) (v := ?_) (a' := ?_) #[true, true, true, true, true, true, true, true, false, false, false, false, false, false, false, false, false] rfl rfl (by kernel_rfl) (fun _ _ _ h => h) (Or.inl ⟨by rfl, ?_⟩) ?_ ?_
      rotate_left
      · intro w'
        go_simp
        with_reducible rfl
      rotate_left
      · simp only [Act.put, List.setIfInBounds_toArray, List.set_cons_zero, List.set_cons_succ, i64_w, i32_w]
        rfl
      refine pure_ (i := 8) (N := some 34) (v := ?_) (a' := ?_) #[true, true, true, true, true, true, true, true, true, false, false, false, false, false, false, false, false] rfl rfl (by kernel_rfl) (fun _ _ _ h => h) (Or.inl ⟨by rfl, ?_⟩) ?_ ?_
      rotate_left
      · intro w'
        go_simp
        with_reducible rfl
      rotate_left
      · simp only [Act.put, List.setIfInBounds_toArray, List.set_cons_zero, List.set_cons_succ, i64_w, i32_w]
        rfl
      refine pure_ (i := 10) (N := some 36) (v := ?_) (a' := ?_) #[true, true, true, true, true, true, true, true, true, false, true, false, false, false, false, false, false] rfl rfl (by kernel_rfl) (fun _ _ _ h => h) (Or.inl ⟨by rfl, ?_⟩) ?_ ?_
      rotate_left
      · intro w'
        go_simp
        with_reducible rfl
      rotate_left
      · simp only [Act.put, List.setIfInBounds_toArray, List.set_cons_zero, List.set_cons_succ, i64_w, i32_w]
        rfl
      refine take_ (i := 9) (N := some 35) (v := ?_) (a' := ?_) #[true, true, true, true, true, true, true, true, true, true, true, false, false, false, false, false, false] rfl rfl (by kernel_rfl) (fun _ _ _ h => h) (Or.inl ⟨by rfl, ?_⟩) hHeld ?_ ?_
      rotate_left
      · rintro w' ⟨s0, s1, s2⟩
        go_simp
        with_reducible rfl
      rotate_left
      · simp only [Act.put, List.setIfInBounds_toArray, List.set_cons_zero, List.set_cons_succ, i64_w, i32_w]
        rfl
      refine take_ (i := 11) (N := some 37) (v := ?_) (a' := ?_) #[true, true, true, true, true, true, true, true, true, true, true, true, false, false, false, false, false] rfl rfl (by kernel_rfl) (fun _ _ _ h => h) (Or.inl ⟨by rfl, ?_⟩) hHeld ?_ ?_
      rotate_left
      · rintro w' ⟨s0, s1, s2⟩
        go_simp
        with_reducible rfl
      rotate_left
      · simp only [Act.put, List.setIfInBounds_toArray, List.set_cons_zero, List.set_cons_succ, i64_w, i32_w]
        rfl
      refine one_ (i := 12) (N := some 38) #[true, true, true, true, true, true, true, true, true, true, true, true, true, false, false, false, false] rfl rfl (by kernel_rfl) (by decide) (fun K hK => ?_)
      refine goes_ Tryz.func60 (by kernel_rfl) rfl #[.slice A0 l0.length c0] (by rfl) rfl rfl (by simp only [List.map_toArray, List.map_cons, List.map_nil]; rfl) ?_
      with_reducible refine (types_Count.calls _ A0 c0 l0 _ w5 (HX5.out.r0) HX5.out.h0 (countP l0 HX5.out.bulk)).mono ?_
      rintro e w6 ⟨rfl, hb6⟩
      have B6 := Aside0.mk (BD.out.trans (hb6.mono BD.out.size))
      have Q6 := Aside0.mk (blk_below HQ5.out hb6)
      refine ⟨_, rfl, ?_⟩
      refine hK.out _ _ ⟨(hb6.cell (World.block_lt_of_cell? w5 _ u0)).trans u0, (hb6.cell (World.block_lt_of_cell? w5 _ u2)).trans u2, (hb6.cell (World.block_lt_of_cell? w5 _ ux)).trans ux⟩ (fun hHeld => ?_)
      clear hK K
      refine norm_ (a' := ?_) ?_ ?_
      rotate_left
      · show Act.put _ (some 38) _ = _
        simp only [Act.put, List.setIfInBounds_toArray, List.set_cons_zero, List.set_cons_succ, i64_w, i32_w]
        rfl
      refine pure_ (i := 13) (N := some 39) (v := ?_) (a' := ?_) #[true, true, true, true, true, true, true, true, true, true, true, true, true, true, false, false, false] rfl rfl (by kernel_rfl) (fun _ _ _ h => h) (Or.inl ⟨by rfl, ?_⟩) ?_ ?_
      rotate_left
      · intro w'
        go_simp
        with_reducible rfl
      rotate_left
      · simp only [Act.put, List.setIfInBounds_toArray, List.set_cons_zero, List.set_cons_succ, i64_w, i32_w]
        rfl
      refine pure_ (i := 14) (N := some 40) (v := ?_) (a' := ?_) #[true, true, true, true, true, true, true, true, true, true, true, true, true, true, true, false, false] rfl rfl (by kernel_rfl) (fun _ _ _ h => h) (Or.inl ⟨by rfl, ?_⟩) ?_ ?_
      rotate_left
      · intro w'
        go_simp
        with_reducible rfl
      rotate_left
      · simp only [Act.put, List.setIfInBounds_toArray, List.set_cons_zero, List.set_cons_succ, i64_w, i32_w]
        rfl
      refine pure_ (i := 15) (N := some 41) (v := ?_) (a' := ?_) #[true, true, true, true, true, true, true, true, true, true, true, true, true, true, true, true, false] rfl rfl (by kernel_rfl) (fun _ _ _ h => h) (Or.inl ⟨by rfl, ?_⟩) ?_ ?_
      rotate_left
      · intro w'
        go_simp
        with_reducible rfl
      rotate_left
      · simp only [Act.put, List.setIfInBounds_toArray, List.set_cons_zero, List.set_cons_succ, i64_w, i32_w]
        rfl
      refine pure_ (i := 16) (N := some 25) (v := ?_) (a' := ?_) #[true, true, true, true, true, true, true, true, true, true, true, true, true, true, true, true, true] rfl rfl (by kernel_rfl) (fun _ _ _ h => h) (Or.inl ⟨by rfl, ?_⟩) ?_ ?_
      rotate_left
      · intro w'
        go_simp
        with_reducible rfl
      rotate_left
      · simp only [Act.put, List.setIfInBounds_toArray, List.set_cons_zero, List.set_cons_succ, i64_w, i32_w]
        rfl
      refine done_ (by kernel_rfl) ?_
      clear u0 u2 ux hHeld
      go_wp2_with fail
      refine bodyPost_ret (results_tmp3 rfl _ _ _) rfl ?_
      exact ⟨_, _, rfl, VR.nil _, VR.nil _, B6.out⟩
    have EV : btV l0 t v = ([], [v], 0) := by unfold btV; rw [if_neg h0, if_neg z0, if_neg (by rintro ⟨_, h | h⟩; (· exact h12 h); (· exact hc h))]
    rw [EV]
    have ec : decide ((vcount l0 : Int) ≤ v.f2) = false := by simp; omega
    clear EV z0 h0 h5 h12 hc
    go_enter Tryz.func25, Tryz.ntmps25
    go_wp2_with fail
    rw [← hW3]
    clear hW3
    refine start_ (n := 17) (S := fun w' => w'.cell? ⟨w.heap.size + 1 + 1, 0, none⟩ = some (.int .i64 v.f0) ∧ w'.cell? ⟨w.heap.size + 1 + 1, 2, none⟩ = some (.int .i64 v.f2) ∧ w'.cell? ⟨w.heap.size, 0, none⟩ = some (.slice A0 l0.length c0)) (ds := []) #[false, false, false, false, false, false, false, false, false, false, false, false, false, false, false, false, false] (by kernel_rfl) rfl rfl ⟨u0, u2, ux⟩ (fun hHeld => ?_)
    have BD : Aside0 (Below w.heap.size w W3.drew) := ⟨B3.out.drew⟩
    have HX5 : Aside0 (XIn W3.drew A0 c0 l0 A1 c1 l1 A2 c2 l2 A3 c3 l3 A4 c4 l4 A5 c5 l5 A6 c6 l6 d7 A8 c8 l8) := ⟨HX.out.below (Below.refl _ _).drew⟩
    have HQ5 : Aside0 (W3.drew.heap[w.heap.size + 1 + 1]? = some (.cells #[.int .i64 v.f0, .bool v.f1, .int .i64 v.f2] 39 (0, 0))) := ⟨HQ2.out⟩
    replace u0 : W3.drew.cell? _ = _ := u0
    replace u2 : W3.drew.cell? _ = _ := u2
    replace ux : W3.drew.cell? _ = _ := ux
    generalize W3.drew = w5 at BD HX5 HQ5 u0 u2 ux hHeld ⊢
    refine pure_ (i := 0) (N := some 26) (v := ?_) (a' := ?_) #[true, false, false, false, false, false, false, false, false, false, false, false, false, false, false, false, false] rfl rfl (by kernel_rfl) (fun _ _ _ h => h) (Or.inl ⟨by rfl, ?_⟩) ?_ ?_
    rotate_left
    · intro w'
      go_simp
      with_reducible rfl
    rotate_left
    · simp only [Act.put, List.setIfInBounds_toArray, List.set_cons_zero, List.set_cons_succ, i64_w, i32_w]
      rfl
    refine take_ (i := 1) (N := some 27) (v := ?_) (a' := ?_) #[true, true, false, false, false, false, false, false, false, false, false, false, false, false, false, false, false] rfl rfl (by kernel_rfl) (fun _ _ _ h => h) (Or.inl ⟨by rfl, ?_⟩) hHeld ?_ ?_
    rotate_left
    · rintro w' ⟨s0, s1, s2⟩
      go_simp
      with_reducible rfl
    rotate_left
    · simp only [Act.put, List.setIfInBounds_toArray, List.set_cons_zero, List.set_cons_succ, i64_w, i32_w]
      rfl
    refine pure_ (i := 2) (N := some 28) (v := ?_) (a' := ?_) #[true, true, true, false, false, false, false, false, false, false, false, false, false, false, false, false, false] rfl rfl (by kernel_rfl) (fun _ _ _ h => h) (Or.inl ⟨by rfl, ?_⟩) ?_ ?_
    rotate_left
    · intro w'
      go_simp
      with_reducible rfl
    rotate_left
    · simp only [Act.put, List.setIfInBounds_toArray, List.set_cons_zero, List.set_cons_succ, i64_w, i32_w]
      rfl
    refine pure_ (i := 3) (N := some 29) (v := ?_) (a' := ?_) #[true, true, true, true, false, false, false, false, false, false, false, false, false, false, false, false, false] rfl rfl (by kernel_rfl) (fun _ _ _ h => h) (Or.inl ⟨by rfl, ?_⟩) ?_ ?_
    rotate_left
    · intro w'
      go_simp
      with_reducible rfl
    rotate_left
    · simp only [Act.put, List.setIfInBounds_toArray, List.set_cons_zero, List.set_cons_succ, i64_w, i32_w]
      rfl
    refine pure_ (i := 4) (N := some 30) (v := ?_) (a' := ?_) #[true, true, true, true, true, false, false, false, false, false, false, false, false, false, false, false, false] rfl rfl (by kernel_rfl) (fun _ _ _ h => h) (Or.inl ⟨by rfl, ?_⟩) ?_ ?_
    rotate_left
    · intro w'
      go_simp
      with_reducible rfl
    rotate_left
    · simp only [Act.put, List.setIfInBounds_toArray, List.set_cons_zero, List.set_cons_succ, i64_w, i32_w]
      rfl
    refine take_ (i := 5) (N := some 31) (v := ?_) (a' := ?_) #[true, true, true, true, true, true, false, false, false, false, false, false, false, false, false, false, false] rfl rfl (by kernel_rfl) (fun _ _ _ h => h) (Or.inl ⟨by rfl, ?_⟩) hHeld ?_ ?_
    rotate_left
    · rintro w' ⟨s0, s1, s2⟩
      go_simp
      with_reducible rfl
    rotate_left
    · simp only [Act.put, List.setIfInBounds_toArray, List.set_cons_zero, List.set_cons_succ, i64_w, i32_w]
      rfl
    refine pure_ (i := 6) (N := some 32) (v := ?_) (a' := ?_) #[true, true, true, true, true, true, true, false, false, false, false, false, false, false, false, false, false] rfl rfl (by kernel_rfl) (fun _ _ _ h => h) (Or.inl ⟨by rfl, ?_⟩) ?_ ?_
    rotate_left
    · intro w'
      go_simp
      with_reducible rfl
    rotate_left
    · simp only [Act.put, List.setIfInBounds_toArray, List.set_cons_zero, List.set_cons_succ, i64_w, i32_w]
      rfl
    refine pure_ (i := 7) (N := some 33) (v := ?_) (a' := ?_) #[true, true, true, true, true, true, true, true, false, false, false, false, false, false, false, false, false] rfl rfl (by kernel_rfl) (fun _ _ _ h => h) (Or.inl ⟨by rfl, ?_⟩) ?_ ?_
    rotate_left
    · intro w'
      go_simp
      with_reducible rfl
    rotate_left
    · simp only [Act.put, List.setIfInBounds_toArray, List.set_cons_zero, List.set_cons_succ, i64_w, i32_w]
      rfl
    refine pure_ (i := 8) (N := some 34) (v := ?_) (a' := ?_) #[true, true, true, true, true, true, true, true, true, false, false, false, false, false, false, false, false] rfl rfl (by kernel_rfl) (fun _ _ _ h => h) (Or.inl ⟨by rfl, ?_⟩) ?_ ?_
    rotate_left
    · intro w'
      go_simp
      with_reducible rfl
    rotate_left
    · simp only [Act.put, List.setIfInBounds_toArray, List.set_cons_zero, List.set_cons_succ, i64_w, i32_w]
      rfl
    refine pure_ (i := 10) (N := some 36) (v := ?_) (a' := ?_) #[true, true, true, true, true, true, true, true, true, false, true, false, false, false, false, false, false] rfl rfl (by kernel_rfl) (fun _ _ _ h => h) (Or.inl ⟨by rfl, ?_⟩) ?_ ?_
    rotate_left
    · intro w'
      go_simp
      with_reducible rfl
    rotate_left
    · simp only [Act.put, List.setIfInBounds_toArray, List.set_cons_zero, List.set_cons_succ, i64_w, i32_w]
      rfl
    refine take_ (i := 9) (N := some 35) (v := ?_) (a' := ?_) #[true, true, true, true, true, true, true, true, true, true, true, false, false, false, false, false, false] rfl rfl (by kernel_rfl) (fun _ _ _ h => h) (Or.inl ⟨by rfl, ?_⟩) hHeld ?_ ?_
    rotate_left
    · rintro w' ⟨s0, s1, s2⟩
      go_simp
      with_reducible rfl
    rotate_left
    · simp only [Act.put, List.setIfInBounds_toArray, List.set_cons_zero, List.set_cons_succ, i64_w, i32_w]
      rfl
    refine take_ (i := 11) (N := some 37) (v := ?_) (a' := ?_) #[true, true, true, true, true, true, true, true, true, true, true, true, false, false, false, false, false] rfl rfl (by kernel_rfl) (fun _ _ _ h => h) (Or.inl ⟨by rfl, ?_⟩) hHeld ?_ ?_
    rotate_left
    · rintro w' ⟨s0, s1, s2⟩
      go_simp
      with_reducible rfl
    rotate_left
    · simp only [Act.put, List.setIfInBounds_toArray, List.set_cons_zero, List.set_cons_succ, i64_w, i32_w]
      rfl
    refine one_ (i := 12) (N := some 38) #[true, true, true, true, true, true, true, true, true, true, true, true, true, false, false, false, false] rfl rfl (by kernel_rfl) (by decide) (fun K hK => ?_)
    refine goes_ Tryz.func60 (by kernel_rfl) rfl #[.slice A0 l0.length c0] (by rfl) rfl rfl (by simp only [List.map_toArray, List.map_cons, List.map_nil]; rfl) ?_
    with_reducible refine (types_Count.calls _ A0 c0 l0 _ w5 (HX5.out.r0) HX5.out.h0 (countP l0 HX5.out.bulk)).mono ?_
    rintro e w6 ⟨rfl, hb6⟩
    have B6 := Aside0.mk (BD.out.trans (hb6.mono BD.out.size))
    have Q6 := Aside0.mk (blk_below HQ5.out hb6)
    refine ⟨_, rfl, ?_⟩
    refine hK.out _ _ ⟨(hb6.cell (World.block_lt_of_cell? w5 _ u0)).trans u0, (hb6.cell (World.block_lt_of_cell? w5 _ u2)).trans u2, (hb6.cell (World.block_lt_of_cell? w5 _ ux)).trans ux⟩ (fun hHeld => ?_)
    clear hK K
    refine norm_ (a' := ?_) ?_ ?_
    rotate_left
    · show Act.put _ (some 38) _ = _
      simp only [Act.put, List.setIfInBounds_toArray, List.set_cons_zero, List.set_cons_succ, i64_w, i32_w]
      rfl
    refine pure_ (i := 13) (N := some 39) (v := ?_) (a' := ?_) #[true, true, true, true, true, true, true, true, true, true, true, true, true, true, false, false, false] rfl rfl (by kernel_rfl) (fun _ _ _ h => h) (Or.inl ⟨by rfl, ?_⟩) ?_ ?_
    rotate_left
    · intro w'
      go_simp
      with_reducible rfl
    rotate_left
    · simp only [Act.put, List.setIfInBounds_toArray, List.set_cons_zero, List.set_cons_succ, i64_w, i32_w]
      rfl
    refine pure_ (i := 14) (N := some 40) (v := ?_) (a' := ?_) #[true, true, true, true, true, true, true, true, true, true, true, true, true, true, true, false, false] rfl rfl (by kernel_rfl) (fun _ _ _ h => h) (Or.inl ⟨by rfl, ?_⟩) ?_ ?_
    rotate_left
    · intro w'
      go_simp
      with_reducible rfl
    rotate_left
    · simp only [Act.put, List.setIfInBounds_toArray, List.set_cons_zero, List.set_cons_succ, i64_w, i32_w]
      rfl
    refine pure_ (i := 15) (N := some 41) (v := ?_) (a' := ?_) #[true, true, true, true, true, true, true, true, true, true, true, true, true, true, true, true, false] rfl rfl (by kernel_rfl) (fun _ _ _ h => h) (Or.inl ⟨by rfl, ?_⟩) ?_ ?_
    rotate_left
    · intro w'
      go_simp
      with_reducible rfl
    rotate_left
    · simp only [Act.put, List.setIfInBounds_toArray, List.set_cons_zero, List.set_cons_succ, i64_w, i32_w]
      rfl
    refine pure_ (i := 16) (N := some 25) (v := ?_) (a' := ?_) #[true, true, true, true, true, true, true, true, true, true, true, true, true, true, true, true, true] rfl rfl (by kernel_rfl) (fun _ _ _ h => h) (Or.inl ⟨by rfl, ?_⟩) ?_ ?_
    rotate_left
    · intro w'
      go_simp
      with_reducible rfl
    rotate_left
    · simp only [Act.put, List.setIfInBounds_toArray, List.set_cons_zero, List.set_cons_succ, i64_w, i32_w]
      rfl
    refine done_ (by kernel_rfl) ?_
    clear u0 u2 ux hHeld
    have k0 : w6.cell? ⟨w.heap.size + 1 + 1, 0, none⟩ = some (.int .i64 v.f0) := (blk_cell Q6.out 0).trans rfl
    have k1 : w6.cell? ⟨w.heap.size + 1 + 1, 1, none⟩ = some (.bool v.f1) := (blk_cell Q6.out 1).trans rfl
    have k2 : w6.cell? ⟨w.heap.size + 1 + 1, 2, none⟩ = some (.int .i64 v.f2) := (blk_cell Q6.out 2).trans rfl
    go_wp2_with fail
    have hBD := BD
    clear BD hBD
    refine start_ (n := 5) (S := fun w' => w'.cell? ⟨w.heap.size + 1 + 1, 0, none⟩ = some (.int .i64 v.f0) ∧ w'.cell? ⟨w.heap.size + 1 + 1, 1, none⟩ = some (.bool v.f1) ∧ w'.cell? ⟨w.heap.size + 1 + 1, 2, none⟩ = some (.int .i64 v.f2)) (ds := []) #[false, false, false, false, false] (by kernel_rfl) rfl rfl ⟨k0, k1, k2⟩ (fun hHeld => ?_)
    have BD : Aside0 (Below w.heap.size w w6.drew) := ⟨B6.out.drew⟩
    replace k0 : w6.drew.cell? _ = _ := k0
    replace k1 : w6.drew.cell? _ = _ := k1
    replace k2 : w6.drew.cell? _ = _ := k2
    generalize w6.drew = w8 at BD k0 k1 k2 hHeld ⊢
    refine pure_ (i := 2) (N := some 4) (v := ?_) (a' := ?_) #[false, false, true, false, false] rfl rfl (by kernel_rfl) (fun _ _ _ h => h) (Or.inl ⟨by rfl, ?_⟩) ?_ ?_
    rotate_left
    · intro w'
      go_simp
      with_reducible rfl
    rotate_left
    · simp only [Act.put, List.setIfInBounds_toArray, List.set_cons_zero, List.set_cons_succ, i64_w, i32_w]
      rfl
    refine take_ (i := 0) (N := some 42) (v := ?_) (a' := ?_) #[true, false, true, false, false] rfl rfl (by kernel_rfl) (fun _ _ _ h => h) (Or.inl ⟨by rfl, ?_⟩) hHeld ?_ ?_
    rotate_left
    · rintro w' ⟨s0, s1, s2⟩
      go_simp
      with_reducible rfl
    rotate_left
    · simp only [Act.put, List.setIfInBounds_toArray, List.set_cons_zero, List.set_cons_succ, i64_w, i32_w]
      rfl
    refine one_ (i := 1) (N := some 43) #[true, true, true, false, false] rfl rfl (by kernel_rfl) (by decide) (fun K hK => ?_)
    refine value_ (w1 := ?_) (v := ?_) (by rfl) rfl ?_ ?_
    rotate_left 2
    · go_simp
      constructor
      · rfl
      · rfl
    refine hK.out _ _ ⟨(((Below.refl _ _).alloc (Nat.le_refl _) _).cell (World.block_lt_of_cell? w8 _ k0)).trans k0, (((Below.refl _ _).alloc (Nat.le_refl _) _).cell (World.block_lt_of_cell? w8 _ k1)).trans k1, (((Below.refl _ _).alloc (Nat.le_refl _) _).cell (World.block_lt_of_cell? w8 _ k2)).trans k2⟩ (fun hHeld => ?_)
    clear hK K
    refine norm_ (a' := ?_) ?_ ?_
    rotate_left
    · show Act.put _ (some 43) _ = _
      simp only [Act.put, List.setIfInBounds_toArray, List.set_cons_zero, List.set_cons_succ, i64_w, i32_w]
      rfl
    refine pure_ (i := 3) (N := some 5) (v := ?_) (a' := ?_) #[true, true, true, true, false] rfl rfl (by kernel_rfl) (fun _ _ _ h => h) (Or.inl ⟨by rfl, ?_⟩) ?_ ?_
    rotate_left
    · intro w'
      go_simp
      with_reducible rfl
    rotate_left
    · simp only [Act.put, List.setIfInBounds_toArray, List.set_cons_zero, List.set_cons_succ, i64_w, i32_w]
      rfl
    refine pure_ (i := 4) (N := some 6) (v := ?_) (a' := ?_) #[true, true, true, true, true] rfl rfl (by kernel_rfl) (fun _ _ _ h => h) (Or.inl ⟨by rfl, ?_⟩) ?_ ?_
    rotate_left
    · intro w'
      go_simp
      with_reducible rfl
    rotate_left
    · simp only [Act.put, List.setIfInBounds_toArray, List.set_cons_zero, List.set_cons_succ, i64_w, i32_w]
      rfl
    refine done_ (by kernel_rfl) ?_
    go_wp2_with fail
    refine bodyPost_ret (results_tmp3 rfl _ _ _) rfl ?_
    exact ⟨_, _, rfl, VR.nil _, VR.one w8 v _, BD.out.alloc BD.out.size _⟩
  · have e5 : (v.f0 == 5) = false := by simp [h5]
    have EV : btV l0 t v = ([], [v], 0) := by unfold btV; rw [if_neg h0, if_neg z0, if_neg (fun h => h5 h.1)]
    rw [EV]
    clear EV z0 h0 h5
    go_enter Tryz.func25, Tryz.ntmps25
    go_wp2_with fail
    rw [← hW3]
    clear hW3
    refine start_ (n := 17) (S := fun w' => w'.cell? ⟨w.heap.size + 1 + 1, 0, none⟩ = some (.int .i64 v.f0) ∧ w'.cell? ⟨w.heap.size + 1 + 1, 2, none⟩ = some (.int .i64 v.f2) ∧ w'.cell? ⟨w.heap.size, 0, none⟩ = some (.slice A0 l0.length c0)) (ds := []) #[false, false, false, false, false, false, false, false, false, false, false, false, false, false, false, false, false] (by kernel_rfl) rfl rfl ⟨u0, u2, ux⟩ (fun hHeld => ?_)
    have BD : Aside0 (Below w.heap.size w W3.drew) := ⟨B3.out.drew⟩
    have HX5 : Aside0 (XIn W3.drew A0 c0 l0 A1 c1 l1 A2 c2 l2 A3 c3 l3 A4 c4 l4 A5 c5 l5 A6 c6 l6 d7 A8 c8 l8) := ⟨HX.out.below (Below.refl _ _).drew⟩
    have HQ5 : Aside0 (W3.drew.heap[w.heap.size + 1 + 1]? = some (.cells #[.int .i64 v.f0, .bool v.f1, .int .i64 v.f2] 39 (0, 0))) := ⟨HQ2.out⟩
    replace u0 : W3.drew.cell? _ = _ := u0
    replace u2 : W3.drew.cell? _ = _ := u2
    replace ux : W3.drew.cell? _ = _ := ux
    generalize W3.drew = w5 at BD HX5 HQ5 u0 u2 ux hHeld ⊢
    refine pure_ (i := 0) (N := some 26) (v := ?_) (a' := ?_) #[true, false, false, false, false, false, false, false, false, false, false, false, false, false, false, false, false] rfl rfl (by kernel_rfl) (fun _ _ _ h => h) (Or.inl ⟨by rfl, ?_⟩) ?_ ?_
    rotate_left
    · intro w'
      go_simp
      with_reducible rfl
    rotate_left
    · simp only [Act.put, List.setIfInBounds_toArray, List.set_cons_zero, List.set_cons_succ, i64_w, i32_w]
      rfl
    refine take_ (i := 1) (N := some 27) (v := ?_) (a' := ?_) #[true, true, false, false, false, false, false, false, false, false, false, false, false, false, false, false, false] rfl rfl (by kernel_rfl) (fun _ _ _ h => h) (Or.inl ⟨by rfl, ?_⟩) hHeld ?_ ?_
    rotate_left
    · rintro w' ⟨s0, s1, s2⟩
      go_simp
      with_reducible rfl
    rotate_left
    · simp only [Act.put, List.setIfInBounds_toArray, List.set_cons_zero, List.set_cons_succ, i64_w, i32_w]
      rfl
    refine pure_ (i := 2) (N := some 28) (v := ?_) (a' := ?_) #[true, true, true, false, false, false, false, false, false, false, false, false, false, false, false, false, false] rfl rfl (by kernel_rfl) (fun _ _ _ h => h) (Or.inl ⟨by rfl, ?_⟩) ?_ ?_
    rotate_left
    · intro w'
      go_simp
      with_reducible rfl
    rotate_left
    · simp only [Act.put, List.setIfInBounds_toArray, List.set_cons_zero, List.set_cons_succ, i64_w, i32_w]
      rfl
    refine pure_ (i := 3) (N := some 29) (v := ?_) (a' := ?_) #[true, true, true, true, false, false, false, false, false, false, false, false, false, false, false, false, false] rfl rfl (by kernel_rfl) (fun _ _ _ h => h) (Or.inl ⟨by rfl, ?_⟩) ?_ ?_
    rotate_left
    · intro w'
      go_simp
      with_reducible rfl
    rotate_left
    · simp only [Act.put, List.setIfInBounds_toArray, List.set_cons_zero, List.set_cons_succ, i64_w, i32_w]
      rfl
    refine pure_ (i := 4) (N := some 30) (v := undef) (a' := ?_) #[true, true, true, true, true, false, false, false, false, false, false, false, false, false, false, false, false] rfl rfl (by kernel_rfl) (fun _ _ _ h => h) (Or.inr ⟨by rfl, rfl⟩) ?_ ?_
    rotate_left
    · simp only [Act.put, List.setIfInBounds_toArray, List.set_cons_zero, List.set_cons_succ, i64_w, i32_w]
      rfl
    refine pure_ (i := 5) (N := some 31) (v := undef) (a' := ?_) #[true, true, true, true, true, true, false, false, false, false, false, false, false, false, false, false, false] rfl rfl (by kernel_rfl) (fun _ _ _ h => h) (Or.inr ⟨by rfl, rfl⟩) ?_ ?_
    rotate_left
    · simp only [Act.put, List.setIfInBounds_toArray, List.set_cons_zero, List.set_cons_succ, i64_w, i32_w]
      rfl
    refine pure_ (i := 6) (N := some 32) (v := undef) (a' := ?_) #[true, true, true, true, true, true, true, false, false, false, false, false, false, false, false, false, false] rfl rfl (by kernel_rfl) (fun _ _ _ h => h) (Or.inr ⟨by rfl, rfl⟩) ?_ ?_
    rotate_left
    · simp only [Act.put, List.setIfInBounds_toArray, List.set_cons_zero, List.set_cons_succ, i64_w, i32_w]
      rfl
    refine pure_ (i := 7) (N := some 33) (v := undef) (a' := ?_) #[true, true, true, true, true, true, true, true, false, false, false, false, false, false, false, false, false] rfl rfl (by kernel_rfl) (fun _ _ _ h => h) (Or.inr ⟨by rfl, rfl⟩) ?_ ?_
    rotate_left
    · simp only [Act.put, List.setIfInBounds_toArray, List.set_cons_zero, List.set_cons_succ, i64_w, i32_w]
      rfl
    refine pure_ (i := 8) (N := some 34) (v := undef) (a' := ?_) #[true, true, true, true, true, true, true, true, true, false, false, false, false, false, false, false, false] rfl rfl (by kernel_rfl) (fun _ _ _ h => h) (Or.inr ⟨by rfl, rfl⟩) ?_ ?_
    rotate_left
    · simp only [Act.put, List.setIfInBounds_toArray, List.set_cons_zero, List.set_cons_succ, i64_w, i32_w]
      rfl
    refine pure_ (i := 9) (N := some 35) (v := undef) (a' := ?_) #[true, true, true, true, true, true, true, true, true, true, false, false, false, false, false, false, false] rfl rfl (by kernel_rfl) (fun _ _ _ h => h) (Or.inr ⟨by rfl, rfl⟩) ?_ ?_
    rotate_left
    · simp only [Act.put, List.setIfInBounds_toArray, List.set_cons_zero, List.set_cons_succ, i64_w, i32_w]
      rfl
    refine pure_ (i := 10) (N := some 36) (v := undef) (a' := ?_) #[true, true, true, true, true, true, true, true, true, true, true, false, false, false, false, false, false] rfl rfl (by kernel_rfl) (fun _ _ _ h => h) (Or.inr ⟨by rfl, rfl⟩) ?_ ?_
    rotate_left
    · simp only [Act.put, List.setIfInBounds_toArray, List.set_cons_zero, List.set_cons_succ, i64_w, i32_w]
      rfl
    refine pure_ (i := 11) (N := some 37) (v := undef) (a' := ?_) #[true, true, true, true, true, true, true, true, true, true, true, true, false, false, false, false, false] rfl rfl (by kernel_rfl) (fun _ _ _ h => h) (Or.inr ⟨by rfl, rfl⟩) ?_ ?_
    rotate_left
    · simp only [Act.put, List.setIfInBounds_toArray, List.set_cons_zero, List.set_cons_succ, i64_w, i32_w]
      rfl
    refine pure_ (i := 12) (N := some 38) (v := undef) (a' := ?_) #[true, true, true, true, true, true, true, true, true, true, true, true, true, false, false, false, false] rfl rfl (by kernel_rfl) (fun _ _ _ h => h) (Or.inr ⟨by rfl, rfl⟩) ?_ ?_
    rotate_left
    · simp only [Act.put, List.setIfInBounds_toArray, List.set_cons_zero, List.set_cons_succ, i64_w, i32_w]
      rfl
    refine pure_ (i := 13) (N := some 39) (v := undef) (a' := ?_) #[true, true, true, true, true, true, true, true, true, true, true, true, true, true, false, false, false] rfl rfl (by kernel_rfl) (fun _ _ _ h => h) (Or.inr ⟨by rfl, rfl⟩) ?_ ?_
    rotate_left
    · simp only [Act.put, List.setIfInBounds_toArray, List.set_cons_zero, List.set_cons_succ, i64_w, i32_w]
      rfl
    refine pure_ (i := 14) (N := some 40) (v := undef) (a' := ?_) #[true, true, true, true, true, true, true, true, true, true, true, true, true, true, true, false, false] rfl rfl (by kernel_rfl) (fun _ _ _ h => h) (Or.inr ⟨by rfl, rfl⟩) ?_ ?_
    rotate_left
    · simp only [Act.put, List.setIfInBounds_toArray, List.set_cons_zero, List.set_cons_succ, i64_w, i32_w]
      rfl
    refine pure_ (i := 15) (N := some 41) (v := ?_) (a' := ?_) #[true, true, true, true, true, true, true, true, true, true, true, true, true, true, true, true, false] rfl rfl (by kernel_rfl) (fun _ _ _ h => h) (Or.inl ⟨by rfl, ?_⟩) ?_ ?_
    rotate_left
    · intro w'
      go_simp
      with_reducible rfl
    rotate_left
    · simp only [Act.put, List.setIfInBounds_toArray, List.set_cons_zero, List.set_cons_succ, i64_w, i32_w]
      rfl
    refine pure_ (i := 16) (N := some 25) (v := ?_) (a' := ?_) #[true, true, true, true, true, true, true, true, true, true, true, true, true, true, true, true, true] rfl rfl (by kernel_rfl) (fun _ _ _ h => h) (Or.inl ⟨by rfl, ?_⟩) ?_ ?_
    rotate_left
    · intro w'
      go_simp
      with_reducible rfl
    rotate_left
    · simp only [Act.put, List.setIfInBounds_toArray, List.set_cons_zero, List.set_cons_succ, i64_w, i32_w]
      rfl
    refine done_ (by kernel_rfl) ?_
    clear u0 u2 ux hHeld
    have k0 : w5.cell? ⟨w.heap.size + 1 + 1, 0, none⟩ = some (.int .i64 v.f0) := (blk_cell HQ5.out 0).trans rfl
    have k1 : w5.cell? ⟨w.heap.size + 1 + 1, 1, none⟩ = some (.bool v.f1) := (blk_cell HQ5.out 1).trans rfl
    have k2 : w5.cell? ⟨w.heap.size + 1 + 1, 2, none⟩ = some (.int .i64 v.f2) := (blk_cell HQ5.out 2).trans rfl
    go_wp2_with fail
    have BE := Aside0.mk BD.out
    clear BD
    refine start_ (n := 5) (S := fun w' => w'.cell? ⟨w.heap.size + 1 + 1, 0, none⟩ = some (.int .i64 v.f0) ∧ w'.cell? ⟨w.heap.size + 1 + 1, 1, none⟩ = some (.bool v.f1) ∧ w'.cell? ⟨w.heap.size + 1 + 1, 2, none⟩ = some (.int .i64 v.f2)) (ds := []) #[false, false, false, false, false] (by kernel_rfl) rfl rfl ⟨k0, k1, k2⟩ (fun hHeld => ?_)
    have BD : Aside0 (Below w.heap.size w w5.drew) := ⟨BE.out.drew⟩
    replace k0 : w5.drew.cell? _ = _ := k0
    replace k1 : w5.drew.cell? _ = _ := k1
    replace k2 : w5.drew.cell? _ = _ := k2
    generalize w5.drew = w8 at BD k0 k1 k2 hHeld ⊢
    refine pure_ (i := 2) (N := some 4) (v := ?_) (a' := ?_) #[false, false, true, false, false] rfl rfl (by kernel_rfl) (fun _ _ _ h => h) (Or.inl ⟨by rfl, ?_⟩) ?_ ?_
    rotate_left
    · intro w'
      go_simp
      with_reducible rfl
    rotate_left
    · simp only [Act.put, List.setIfInBounds_toArray, List.set_cons_zero, List.set_cons_succ, i64_w, i32_w]
      rfl
    refine take_ (i := 0) (N := some 42) (v := ?_) (a' := ?_) #[true, false, true, false, false] rfl rfl (by kernel_rfl) (fun _ _ _ h => h) (Or.inl ⟨by rfl, ?_⟩) hHeld ?_ ?_
    rotate_left
    · rintro w' ⟨s0, s1, s2⟩
      go_simp
      with_reducible rfl
    rotate_left
    · simp only [Act.put, List.setIfInBounds_toArray, List.set_cons_zero, List.set_cons_succ, i64_w, i32_w]
      rfl
    refine one_ (i := 1) (N := some 43) #[true, true, true, false, false] rfl rfl (by kernel_rfl) (by decide) (fun K hK => ?_)
    refine value_ (w1 := ?_) (v := ?_) (by rfl) rfl ?_ ?_
    rotate_left 2
    · go_simp
      constructor
      · rfl
      · rfl
    refine hK.out _ _ ⟨(((Below.refl _ _).alloc (Nat.le_refl _) _).cell (World.block_lt_of_cell? w8 _ k0)).trans k0, (((Below.refl _ _).alloc (Nat.le_refl _) _).cell (World.block_lt_of_cell? w8 _ k1)).trans k1, (((Below.refl _ _).alloc (Nat.le_refl _) _).cell (World.block_lt_of_cell? w8 _ k2)).trans k2⟩ (fun hHeld => ?_)
    clear hK K
    refine norm_ (a' := ?_) ?_ ?_
    rotate_left
    · show Act.put _ (some 43) _ = _
      simp only [Act.put, List.setIfInBounds_toArray, List.set_cons_zero, List.set_cons_succ, i64_w, i32_w]
      rfl
    refine pure_ (i := 3) (N := some 5) (v := ?_) (a' := ?_) #[true, true, true, true, false] rfl rfl (by kernel_rfl) (fun _ _ _ h => h) (Or.inl ⟨by rfl, ?_⟩) ?_ ?_
    rotate_left
    · intro w'
      go_simp
      with_reducible rfl
    rotate_left
    · simp only [Act.put, List.setIfInBounds_toArray, List.set_cons_zero, List.set_cons_succ, i64_w, i32_w]
      rfl
    refine pure_ (i := 4) (N := some 6) (v := ?_) (a' := ?_) #[true, true, true, true, true] rfl rfl (by kernel_rfl) (fun _ _ _ h => h) (Or.inl ⟨by rfl, ?_⟩) ?_ ?_
    rotate_left
    · intro w'
      go_simp
      with_reducible rfl
    rotate_left
    · simp only [Act.put, List.setIfInBounds_toArray, List.set_cons_zero, List.set_cons_succ, i64_w, i32_w]
      rfl
    refine done_ (by kernel_rfl) ?_
    go_wp2_with fail
    refine bodyPost_ret (results_tmp3 rfl _ _ _) rfl ?_
    exact ⟨_, _, rfl, VR.nil _, VR.one w8 v _, BD.out.alloc BD.out.size _⟩
end Go.Proofs.YtohlmkcgempdlaaGreatDoor.Cn
