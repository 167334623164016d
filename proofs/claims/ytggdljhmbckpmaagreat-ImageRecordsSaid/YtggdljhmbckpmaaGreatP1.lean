/- Plain laws on drives. -/
import Derived.Test.YtggdljhmbckpmaaGreatF6
import Derived.Test.YtggdljhmbckpmaaGreatF7
import Derived.Test.YtggdljhmbckpmaaGreatF8
set_option linter.unusedVariables false
set_option linter.unusedSimpArgs false
namespace Go.Proofs.YtggdljhmbckpmaaGreat

theorem crashF_len (p : List Int) : ∀ (ws : List DW) (i : Nat) (b : List UInt8), (∀ w ∈ ws, w.at_.toNat + w.data.length ≤ b.length) → (crashF p ws i b).length = b.length
  | [], i, b, _ => rfl
  | w :: ws, i, b, h => by
    have h1 := crashW_length b w (pickOf p i % (w.data.length + 2)) (h w (by simp))
    unfold crashF
    rw [crashF_len p ws (i + 1) _ (fun x hx => by rw [h1]; exact h x (by simp [hx])), h1]
theorem checkD_mem {d : Drive} (h : checkD d = true) : ∀ w ∈ d.pending, w.at_.toNat + w.data.length ≤ d.bytes.length := fun w hw => by
  obtain ⟨i, hi, rfl⟩ := List.mem_iff_getElem.1 hw
  exact ((checkD_spec h).2.2.2.2 i hi).2
theorem checkD_bare {d : Drive} (h : checkD d = true) {xs : List UInt8} (hx : xs.length = d.bytes.length) : checkD ⟨xs, []⟩ = true := by
  unfold checkD at h ⊢
  simp only [Bool.and_eq_true, decide_eq_true_eq] at h ⊢
  rw [hx]
  exact ⟨⟨h.1.1, by simp⟩, by simp⟩
theorem crash_ok {d : Drive} (h : checkD d = true) (p q : List Int) : ∃ cr, crashD d p = (⟨cr, []⟩, 0) ∧ crashD ⟨cr, []⟩ q = (⟨cr, []⟩, 0) ∧ cr.length = d.bytes.length := by
  have hl := crashF_len p d.pending 0 d.bytes (checkD_mem h)
  refine ⟨crashF p d.pending 0 d.bytes, by unfold crashD; rw [h]; rfl, ?_, hl⟩
  unfold crashD
  rw [checkD_bare h hl]; rfl
theorem read_ok {d : Drive} (h : checkD d = true) : readD d = (hasB d, 0) := by unfold readD; rw [h]; rfl
theorem read_bare {d : Drive} (h : checkD d = true) : readD ⟨hasB d, []⟩ = (hasB d, 0) := by
  unfold readD
  rw [checkD_bare h (hasB_length h)]; rfl
theorem sync_ok {d : Drive} (h : checkD d = true) : doD d [⟨2, 0, []⟩] = (⟨hasB d, []⟩, 0) := by
  unfold doD
  rw [h]; rfl
theorem doL_split : ∀ (l1 l2 : List DO) (d : Drive), (doL (l1 ++ l2) d).2 = 0 → (doL l1 d).2 = 0 ∧ doL l2 (doL l1 d).1 = doL (l1 ++ l2) d
  | [], l2, d, h => ⟨rfl, rfl⟩
  | x :: l1, l2, d, h => by
    simp only [List.cons_append, doL] at h ⊢
    split at h
    · rename_i hk
      rw [if_pos hk, if_pos hk]
      exact doL_split l1 l2 _ h
    · rename_i hk
      split at h
      · cases h
      · rename_i hp
        rw [if_neg hk, if_neg hp, if_neg hk, if_neg hp]
        exact doL_split l1 l2 _ h
theorem doL_ok : ∀ (l : List DO) (d : Drive), checkD d = true → l.all (rightB d.bytes.length) = true → (doL l d).2 = 0 → checkD (doL l d).1 = true ∧ (doL l d).1.bytes.length = d.bytes.length
  | [], d, h, _, _ => ⟨h, rfl⟩
  | x :: l, d, h, hr, h0 => by
    simp only [List.all_cons, Bool.and_eq_true] at hr
    simp only [doL] at h0 ⊢
    split at h0
    · rename_i hk
      rw [if_pos hk]
      have hl := hasB_length h
      have := doL_ok l ⟨hasB d, []⟩ (checkD_bare h hl) (by rw [hl]; exact hr.2) h0
      exact ⟨this.1, this.2.trans hl⟩
    · rename_i hk
      split at h0
      · cases h0
      · rename_i hp
        rw [if_neg hk, if_neg hp]
        have h100 := (checkD_spec h).2.2.2.1
        exact doL_ok l ⟨d.bytes, d.pending ++ [⟨x.at_, x.data⟩]⟩ (checkD_snoc (x := ⟨x.at_, x.data⟩) h (by omega) ((rightB_spec hr.1).2 hk)) hr.2 h0
theorem doD_split {d c : Drive} {l : List DO} (h : checkD d = true) (hd : doD d l = (c, 0)) (n : Nat) : ∃ u, doD d (l.take n) = (u, 0) ∧ doD u (l.drop n) = (c, 0) ∧ checkD u = true ∧ checkD c = true := by
  unfold doD at hd
  rw [h, if_pos rfl] at hd
  split at hd
  · rename_i hr
    have e : l = l.take n ++ l.drop n := (List.take_append_drop n l).symm
    have hr1 : (l.take n).all (rightB d.bytes.length) = true := by
      rw [List.all_eq_true] at hr ⊢
      exact fun x hx => hr x (List.mem_of_mem_take hx)
    have hr2 : (l.drop n).all (rightB d.bytes.length) = true := by
      rw [List.all_eq_true] at hr ⊢
      exact fun x hx => hr x (List.mem_of_mem_drop hx)
    have h0 : (doL (l.take n ++ l.drop n) d).2 = 0 := by rw [← e, hd]
    obtain ⟨s1, s2⟩ := doL_split _ _ _ h0
    obtain ⟨k1, k2⟩ := doL_ok _ _ h hr1 s1
    have hc := (doL_ok _ _ h hr (by rw [hd])).1
    rw [hd] at hc
    refine ⟨(doL (l.take n) d).1, ?_, ?_, k1, hc⟩
    · unfold doD
      rw [h, if_pos rfl, hr1, if_pos rfl, ← s1]
    · unfold doD
      rw [k1, if_pos rfl, k2, hr2, if_pos rfl, s2, ← e, hd]
  · simp at hd
end Go.Proofs.YtggdljhmbckpmaaGreat
