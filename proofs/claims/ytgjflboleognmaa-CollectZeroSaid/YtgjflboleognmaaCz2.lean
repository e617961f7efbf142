/- The walk of the law CollectZero. -/
import Derived.Test.YtgjflboleognmaaCz
import Derived.Test.YtgjflboleognmaaQCx1
import Derived.Test.YtgjflboleognmaaOpn
namespace Go.Proofs.Ytgjflboleognmaa.Az
open Go.RowKit Go.Proofs.Ytgjflboleognmaa.QC Go.Proofs.YtgjflboleognmaaW.PrintWords Go.Proofs.Ytgjflboleognmaa.Opn
theorem ref_some (k : Nat) (a b : Int) (c : Bool) (d : Int) : ∃ r, ratchetlaw19_ref.f (k + 1) a b c d [] = some r := by
  have h : ∀ x1 x2 x3 x4 x5 x6 x7, ∃ r, ratchetlaw19_ref.j0 (k + 1) [] false x1 x2 x3 x4 x5 x6 x7 = some r := by
    intro x1 x2 x3 x4 x5 x6 x7
    simp only [ratchetlaw19_ref.j0]
    rw [if_neg (by simp)]
    split
    · exact ⟨_, rfl⟩
    · split <;> exact ⟨_, rfl⟩
  unfold ratchetlaw19_ref.f
  simp only [List.length_nil, Int.natCast_zero, gt_iff_lt, Int.lt_irrefl, decide_false]
  split
  · split <;> exact h _ _ _ _ _ _ _
  · split
    · split <;> exact h _ _ _ _ _ _ _
    · exact h _ _ _ _ _ _ _
theorem wrap_next {i : Int} (h0 : 0 ≤ i) (h : i ≤ 5864062014805) : wrap64 (i + 1) = i + 1 := by
  unfold wrap64
  omega
theorem links_go (l : List S111) (hl : l.length * 24 ≤ 140737488351232) (d : Nat) : ∀ (k : Nat) (i : Int) (out : List S43), 0 ≤ i → i ≤ l.length → (l.length : Int) - i = d → out.length = i.toNat → d + 1 < k → ∃ r, ratchetlaw19_links.l0 k l [] out i = some r := by
  induction d with
  | zero =>
    intro k i out h0 h1 hd ho hk
    obtain ⟨k, rfl⟩ : ∃ m, k = m + 1 := ⟨k - 1, by omega⟩
    exact ⟨out, by simp only [ratchetlaw19_links.l0]; rw [if_neg (by omega)]⟩
  | succ d ih =>
    intro k i out h0 h1 hd ho hk
    obtain ⟨k, rfl⟩ : ∃ m, k = m + 2 := ⟨k - 2, by omega⟩
    obtain ⟨r, hr⟩ := ref_some k (rd_T111 l i).f0 (rd_T111 l i).f1 (rd_T111 l i).f2 (rd_T111 l i).f3
    obtain ⟨q, hq⟩ := ih (k + 1) (i + 1) (out ++ [⟨r.1, r.2.1, r.2.2⟩]) (by omega) (by omega) (by omega) (by simp; omega) (by omega)
    refine ⟨q, ?_⟩
    simp only [ratchetlaw19_links.l0]
    rw [if_pos (by omega), if_pos h0, hr]
    simp only [Option.bind_some]
    rw [if_pos (by omega), wrap_next h0 (by omega)]
    exact hq
theorem links_some (l : List S111) (hl : l.length * 24 ≤ 140737488351232) : ∃ k r, ratchetlaw19_links.f k l [] = some r := by
  obtain ⟨r, hr⟩ := links_go l hl l.length (l.length + 2) 0 [] (by omega) (by omega) (by omega) rfl (by omega)
  exact ⟨_, r, hr⟩
theorem opn111 : Opn Try.prog 111 k111 (fun _ => True) := by
  refine Opn.imp (Opn.iso (Opn.struct Try.underlying111 (by kernel_rfl) (OpnF.cons (Opn.int Try.underlying3 (by kernel_rfl)) rfl rfl (OpnF.cons (Opn.int Try.underlying5 (by kernel_rfl)) rfl rfl (OpnF.cons (Opn.bool Try.underlying4 (by kernel_rfl)) rfl rfl (OpnF.last (Opn.int Try.underlying22 (by kernel_rfl)) rfl))))) _ (fun x => ⟨x.1, x.2.1, x.2.2.1, x.2.2.2⟩) (fun _ => rfl)) (fun _ _ => trivial)
theorem opn56 : Opn Try.prog 56 (Kd.slice 111 k111) (fun xs => xs.length * 24 ≤ 140737488351232 ∧ ∀ x ∈ xs, True) := Opn.slice Try.underlying56 (by kernel_rfl) (by kernel_rfl) opn111
/-- what the walk keeps: 'made' of b. -/
structure Kb (w0 : World) (B : Nat) (w : World) : Prop where
  b : w.cell? ⟨B, 0, none⟩ = some (.bool false)
  lb : B < w.heap.size
  bel : Below w0.heap.size w0 w
theorem Kb.step {w0 w w1 : World} {B : Nat} (h : Kb w0 B w) (hb : Below w.heap.size w w1) : Kb w0 B w1 :=
  ⟨(hb.cell (p := ⟨B, 0, none⟩) h.lb).trans h.b, Nat.lt_of_lt_of_le h.lb hb.size, h.bel.trans (hb.mono h.bel.size)⟩
theorem Kb.no {w0 w : World} {B : Nat} (h : Kb w0 B w) : NoA (some ⟨B, 0, none⟩) w := .inr ⟨B, rfl, h.lb, h.b⟩
theorem links_any (A : Option Addr) (c : Nat) (l : List S111) (w : World) (hr : Kd.C k111 w A l.length l) (hc : l.length ≤ c) (hl : l.length * 24 ≤ 140737488351232) :
    Calls Try.prog 18 #[.slice A l.length c, .slice none 0 0] w fun e w' => ∃ v : Value, e = .returned v ∧ Below w.heap.size w w' := by
  obtain ⟨k, r, h⟩ := links_some l hl
  exact (ratchetlaw19_links.calls k A c l none 0 [] r w hr hc (Kd.C_nil _ _) (Nat.le_refl _) h).mono fun e w' ⟨v, he, _, hb⟩ => ⟨v, he, hb⟩
set_option maxRecDepth 100000 in
set_option maxHeartbeats 1000000 in
theorem collect_zero (A : Option Addr) (c : Nat) (l : List S111) (n : Int) (w : World) (hr : Kd.C k111 w A l.length l) (hc : l.length ≤ c) (hl : l.length * 24 ≤ 140737488351232) :
    Calls Try.prog 4 #[.slice A l.length c, .int .i64 n] w fun e w' => e = .returned (.bool true) ∧ Below w.heap.size w w' := by
  have HR := Aside0.mk hr
  have HC := Aside0.mk hc
  have HL := Aside0.mk hl
  clear hr hc hl
  go_enter Try.func4, Try.ntmps4
  go_wp2_with fail
  refine (links_any A c l _ (Kd.C_below HR.out (b1 w _)) HC.out HL.out).mono ?_
  rintro e w1 ⟨v, rfl, hb⟩
  have K := (Kb.mk (w0 := w) (B := w.heap.size) (by simp) (by simp) (b1 w _)).step hb
  clear hb
  go_wp2_with fail
  refine (live_no _ _ _ (.inl rfl)).mono ?_
  rintro e w1 ⟨rfl, hb⟩
  have K' := K.step hb
  clear hb K
  have K := K'
  clear K'
  go_wp2_with fail
  refine (run_no _ _ _ K.no).mono ?_
  rintro e w1 ⟨rfl, hb⟩
  have K' := K.step hb
  clear hb K
  have K := K'
  clear K'
  go_wp2_with fail
  refine (need_no _ _ _ _ (.inl rfl)).mono ?_
  rintro e w1 ⟨rfl, hb⟩
  have K' := K.step ((b1 _ _).trans (hb.mono (by simp)))
  clear hb K
  have K := K'
  clear K'
  go_wp2_with fail
  refine (graph_no _ _ _ (K.step (b1 _ _)).no).mono ?_
  rintro e w1 ⟨rfl, hb⟩
  have K' := K.step ((b1 _ _).trans (hb.mono (by simp)))
  clear hb K
  have K := K'
  clear K'
  go_wp2_with fail
  refine (sound_no _ _ (.inl rfl)).mono ?_
  rintro e w1 ⟨rfl, hb⟩
  have K' := K.step hb
  clear hb K
  have K := K'
  clear K'
  go_wp2_with fail
  refine (sound_no _ _ K.no).mono ?_
  rintro e w1 ⟨rfl, hb⟩
  have K' := K.step hb
  clear hb K
  have K := K'
  clear K'
  go_wp2_with fail
  go_ret
  exact ⟨rfl, K.bel⟩
theorem collect_zero_row (A : Option Addr) (n c : Nat) (l : List S111) (m : Int) (w : World) (hx : (Kd.slice 111 k111).K w l (Value.slice A n c).cells.toList) (hB : l.length * 24 ≤ 140737488351232 ∧ ∀ x ∈ l, True) {q : Prop} (_ : q) :
    Calls Try.prog 4 #[.slice A n c, .int .i64 m] w fun e w' => e = .returned (.bool true) ∧ Below w.heap.size w w' := by
  obtain ⟨A', c', he, hl, hC⟩ := hx
  simp [Value.cells] at he
  obtain ⟨rfl, rfl, rfl⟩ := he
  exact collect_zero A c l m w hC hl hB.1
end Go.Proofs.Ytgjflboleognmaa.Az
