/- The text of groups tells the groups. -/
import Derived.Test.YtfgglniigeagdaaDoorKv
namespace Go.Proofs.YtfgglniigeagdaaDoor.Cn
set_option linter.unusedSimpArgs false
open Go.RowKit Go.Maps Go.Proofs.YtfgglniigeagdaaDoorW.PrintWords Go.Proofs.YtfgglniigeagdaaDoorW.PrintLast Go.Proofs.YtfgglniigeagdaaDoor.QD
/-- f's texts can be told from what follows them. -/
def Dec {α : Type} (f : α → List UInt8) : Prop := ∀ a b s t, f a ++ s = f b ++ t → a = b ∧ s = t
theorem split_at (x : UInt8) (l1 l2 s t : List UInt8) (h1 : x ∉ l1) (h2 : x ∉ l2) (h : l1 ++ x :: s = l2 ++ x :: t) : l1 = l2 ∧ s = t := by
  induction l1 generalizing l2 with
  | nil =>
    cases l2 with
    | nil => simp at h; exact ⟨rfl, h⟩
    | cons y l2 => simp at h; exact absurd h.1 (fun e => h2 (by simp [e]))
  | cons y l1 ih =>
    cases l2 with
    | nil => simp at h; exact absurd h.1 (fun e => h1 (by simp [e]))
    | cons z l2 =>
      simp at h
      obtain ⟨rfl, h⟩ := h
      obtain ⟨rfl, rfl⟩ := ih l2 (fun hm => h1 (by simp [hm])) (fun hm => h2 (by simp [hm])) h
      exact ⟨rfl, rfl⟩
def valD (l : List UInt8) : Nat := l.foldl (fun n c => 10 * n + (c.toNat - 48)) 0
theorem digit_toNat (d : Nat) (h : d < 10) : (UInt8.ofNat (48 + d)).toNat = 48 + d := by
  rw [UInt8.toNat_ofNat']
  omega
theorem valD_dec (u : Nat) : valD (Lib.decDigits u) = u := by
  induction u using Nat.strongRecOn with
  | ind u ih =>
    rw [Lib.decDigits]
    split
    · rename_i h
      simp only [valD, List.foldl_cons, List.foldl_nil]
      rw [digit_toNat u h]
      omega
    · rename_i h
      have h1 := ih (u / 10) (by omega)
      unfold valD at h1 ⊢
      rw [List.foldl_append, h1]
      simp only [List.foldl_cons, List.foldl_nil]
      rw [digit_toNat (u % 10) (by omega)]
      omega
theorem dec_digit (u : Nat) : ∀ c ∈ Lib.decDigits u, 48 ≤ c.toNat ∧ c.toNat ≤ 57 := by
  induction u using Nat.strongRecOn with
  | ind u ih =>
    rw [Lib.decDigits]
    split
    · rename_i h
      intro c hc
      rw [List.mem_singleton.1 hc, digit_toNat u h]
      omega
    · rename_i h
      intro c hc
      rcases List.mem_append.1 hc with hc | hc
      · exact ih (u / 10) (by omega) c hc
      · rw [List.mem_singleton.1 hc, digit_toNat (u % 10) (by omega)]
        omega
theorem dec_ne (u : Nat) : ∃ c l, Lib.decDigits u = c :: l ∧ 48 ≤ c.toNat := by
  have h := Lib.decDigits_length u
  have h1 := Lib.nDigits_pos u
  cases e : Lib.decDigits u with
  | nil => rw [e] at h; simp at h; omega
  | cons c l => exact ⟨c, l, rfl, (dec_digit u c (by rw [e]; simp)).1⟩
theorem itoa_no (i : Int) (x : UInt8) (hx : x.toNat < 45) : x ∉ Lib.itoa i := by
  intro h
  unfold Lib.itoa at h
  split at h
  · rcases List.mem_cons.1 h with h | h
    · subst h; revert hx; decide
    · have := dec_digit _ _ h; omega
  · have := dec_digit _ _ h; omega
theorem itoa_inj (i j : Int) (h : Lib.itoa i = Lib.itoa j) : i = j := by
  unfold Lib.itoa at h
  split at h <;> split at h
  · injection h with _ h
    have := congrArg valD h
    rw [valD_dec, valD_dec] at this
    omega
  · obtain ⟨c, l, e, hc⟩ := dec_ne j.toNat
    rw [e] at h
    injection h with h _
    subst h
    exact absurd hc (by decide)
  · obtain ⟨c, l, e, hc⟩ := dec_ne i.toNat
    rw [e] at h
    injection h with h _
    subst h
    exact absurd hc (by decide)
  · have := congrArg valD h
    rw [valD_dec, valD_dec] at this
    omega
theorem itoa_head (i : Int) : ∃ c l, Lib.itoa i = c :: l ∧ c ≠ 43 := by
  unfold Lib.itoa
  split
  · exact ⟨45, _, rfl, by decide⟩
  · obtain ⟨c, l, e, hc⟩ := dec_ne i.toNat
    exact ⟨c, l, e, by rintro rfl; revert hc; decide⟩
theorem dec_num : Dec numT := by
  intro a b s t h
  simp only [numT, List.append_assoc, List.cons_append, List.nil_append] at h
  obtain ⟨h1, h2⟩ := split_at 32 _ _ _ _ (itoa_no a 32 (by decide)) (itoa_no b 32 (by decide)) h
  exact ⟨itoa_inj a b h1, h2⟩
theorem dec_flagnum (a b : Bool) (i j : Int) (s t : List UInt8) (h : flagT a ++ (numT i ++ s) = flagT b ++ (numT j ++ t)) : a = b ∧ i = j ∧ s = t := by
  obtain ⟨c, l, e, hc⟩ := itoa_head i
  obtain ⟨c', l', e', hc'⟩ := itoa_head j
  cases a <;> cases b
  · obtain ⟨h1, h2⟩ := dec_num _ _ _ _ h
    exact ⟨rfl, h1, h2⟩
  · simp only [flagT, numT, e, List.cons_append, List.nil_append] at h
    injection h with h _
    exact absurd h hc
  · simp only [flagT, numT, e', List.cons_append, List.nil_append] at h
    injection h with h _
    exact absurd h.symm hc'
  · simp only [flagT, List.cons_append, List.nil_append] at h
    injection h with _ h
    obtain ⟨h1, h2⟩ := dec_num _ _ _ _ h
    exact ⟨rfl, h1, h2⟩
theorem dec_val : Dec valT := by
  intro a b s t h
  simp only [valT, List.append_assoc] at h
  obtain ⟨h1, h⟩ := dec_num _ _ _ _ h
  obtain ⟨h2, h3, h4⟩ := dec_flagnum _ _ _ _ _ _ h
  refine ⟨?_, h4⟩
  obtain ⟨a0, a1, a2⟩ := a
  obtain ⟨b0, b1, b2⟩ := b
  simp only at h1 h2 h3
  subst h1 h2 h3
  rfl
theorem dec_field : Dec fieldT := by
  intro a b s t h
  simp only [fieldT, valT, List.append_assoc] at h
  obtain ⟨h1, h2, h⟩ := dec_flagnum _ _ _ _ _ _ h
  obtain ⟨h3, h4, h5⟩ := dec_flagnum _ _ _ _ _ _ h
  refine ⟨?_, h5⟩
  obtain ⟨⟨a0, a1, a2⟩, a3⟩ := a
  obtain ⟨⟨b0, b1, b2⟩, b3⟩ := b
  simp only at h1 h2 h3 h4
  subst h1 h2 h3 h4
  rfl
theorem dec_list {α : Type} (g : α → List UInt8) (hg : Dec g) (l m : List α) (hl : l.length = m.length) (s t : List UInt8) (h : l.flatMap g ++ s = m.flatMap g ++ t) : l = m ∧ s = t := by
  induction l generalizing m with
  | nil =>
    cases m with
    | nil => exact ⟨rfl, by simpa using h⟩
    | cons y m => simp at hl
  | cons x l ih =>
    cases m with
    | nil => simp at hl
    | cons y m =>
      simp only [List.flatMap_cons, List.append_assoc] at h
      obtain ⟨e1, h1⟩ := hg _ _ _ _ h
      obtain ⟨e2, h2⟩ := ih m (by simpa using hl) h1
      exact ⟨by rw [e1, e2], h2⟩
theorem dec_nlist {α : Type} (g : α → List UInt8) (hg : Dec g) (l m : List α) (s t : List UInt8) (h : numT l.length ++ (l.flatMap g ++ s) = numT m.length ++ (m.flatMap g ++ t)) : l = m ∧ s = t := by
  obtain ⟨h1, h⟩ := dec_num _ _ _ _ h
  exact dec_list g hg l m (by omega) s t h
theorem dec_sub : Dec subT := by
  intro a b s t h
  simp only [subT, List.append_assoc] at h
  obtain ⟨h0, hn, h⟩ := dec_flagnum _ _ _ _ _ _ h
  obtain ⟨h1, h⟩ := dec_list numT dec_num _ _ (by omega) _ _ h
  obtain ⟨h2, h⟩ := dec_num _ _ _ _ h
  obtain ⟨h3, h⟩ := dec_nlist valT dec_val _ _ _ _ h
  obtain ⟨h4, h⟩ := dec_nlist valT dec_val _ _ _ _ h
  obtain ⟨h5, h⟩ := dec_nlist fieldT dec_field _ _ _ _ h
  refine ⟨?_, h⟩
  obtain ⟨a0, a1, ⟨a2, a3, a4, a5⟩⟩ := a
  obtain ⟨b0, b1, ⟨b2, b3, b4, b5⟩⟩ := b
  simp only at h0 h1 h2 h3 h4 h5
  subst h0 h1 h2 h3 h4 h5
  rfl
theorem subT_ne (s : S53) : subT s ≠ [] := by
  obtain ⟨c, l, e, _⟩ := itoa_head s.f1.length
  intro h
  have := congrArg List.length h
  simp [subT, numT, e] at this
theorem keyT_inj (l m : List S53) (h : keyT l = keyT m) : l = m := by
  induction l generalizing m with
  | nil =>
    cases m with
    | nil => rfl
    | cons y m =>
      simp only [keyT, List.flatMap_nil, List.flatMap_cons] at h
      have := List.append_eq_nil_iff.1 h.symm
      exact absurd this.1 (subT_ne y)
  | cons x l ih =>
    cases m with
    | nil =>
      simp only [keyT, List.flatMap_nil, List.flatMap_cons] at h
      have := List.append_eq_nil_iff.1 h
      exact absurd this.1 (subT_ne x)
    | cons y m =>
      simp only [keyT, List.flatMap_cons] at h
      obtain ⟨e1, h1⟩ := dec_sub _ _ _ _ h
      rw [e1, ih m h1]
end Go.Proofs.YtfgglniigeagdaaDoor.Cn
