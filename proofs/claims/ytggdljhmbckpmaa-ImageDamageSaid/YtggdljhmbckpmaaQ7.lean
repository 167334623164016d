/- Plain laws: one byte of a record is changed. -/
import Derived.Test.YtggdljhmbckpmaaQQ
set_option linter.unusedVariables false
set_option linter.unusedSimpArgs false
namespace Go.Proofs.Ytggdljhmbckpmaa

theorem fourL_inj {b b' : List UInt8} {i : Nat} (h : fourL (b'.drop i) = fourL (b.drop i)) : ∀ k, k < 4 → b'.getD (i + k) 0 = b.getD (i + k) 0 := by
  unfold fourL at h
  rw [four_eq, four_eq] at h
  have g : ∀ (c : List UInt8) k, (c.drop i).getD k 0 = c.getD (i + k) 0 := fun c k => by simp only [List.getD, List.getElem?_drop]
  simp only [g] at h
  have t : ∀ (c : List UInt8) k, (c.getD (i + k) 0).toNat < 256 := fun c k => (c.getD (i + k) 0).toNat_lt
  have a0 := t b 0; have a1 := t b 1; have a2 := t b 2; have a3 := t b 3
  have c0 := t b' 0; have c1 := t b' 1; have c2 := t b' 2; have c3 := t b' 3
  intro k hk
  apply UInt8.toNat_inj.1
  match k, hk with
  | 0, _ => omega
  | 1, _ => omega
  | 2, _ => omega
  | 3, _ => omega
theorem cut_at {b : List UInt8} {s q e : Nat} (h1 : s ≤ q) (h2 : q < e) (h3 : e ≤ b.length) : (b.take e).drop s = (b.take q).drop s ++ b[q]'(by omega) :: (b.take e).drop (q + 1) := by
  apply List.ext_getElem?
  intro i
  have hl : ((b.take q).drop s).length = q - s := by simp; omega
  rw [List.getElem?_drop, List.getElem?_take]
  by_cases c1 : i < q - s
  · rw [if_pos (by omega), List.getElem?_append_left (by omega), List.getElem?_drop, List.getElem?_take, if_pos (by omega)]
  · rw [List.getElem?_append_right (by omega), hl]
    by_cases c2 : i = q - s
    · subst c2
      rw [if_pos (by omega), Nat.sub_self, List.getElem?_cons_zero, show s + (q - s) = q by omega, List.getElem?_eq_getElem (by omega)]
    · obtain ⟨j, hj⟩ : ∃ j, i - (q - s) = j + 1 := ⟨i - (q - s) - 1, by omega⟩
      rw [hj, List.getElem?_cons_succ, List.getElem?_drop, List.getElem?_take, show q + 1 + j = s + i by omega]
/-- The record whose byte was changed is read no more. -/
theorem recA_turned {b b' : List UInt8} {at_ limit q : Nat} (hl : limit ≤ b.length) (hlen : b'.length = b.length) (h : (recA b at_ limit).2 = true) (h1 : at_ ≤ q) (h2 : q < (recA b at_ limit).1.stop) (hag : ∀ i, i ≠ q → b'[i]? = b[i]?) (hne : b'.getD q 0 ≠ b.getD q 0) : (recA b' at_ limit).2 = false := by
  cases hx : (recA b' at_ limit).2 with
  | false => rfl
  | true =>
    exfalso
    obtain ⟨g1, g2, g3, g4, g5, g6, g7⟩ := recA_len hl h
    obtain ⟨k1, k2, k3, k4, k5, k6, k7⟩ := recA_len (by rw [hlen]; exact hl) hx
    have hs : (recA b at_ limit).1.stop = at_ + 21 + fourL (b.drop (at_ + 9)) := by unfold Rc.stop; rw [g7, g6]
    rw [hs] at h2
    have agr : ∀ lo hi, (hi ≤ q ∨ q < lo) → Agr b b' lo hi := fun lo hi hh i h3 h4 => hag i (by omega)
    have hgq : ∀ (c : List UInt8) (hq : q < c.length), c.getD q 0 = c[q] := fun c hq => by simp [List.getD, hq]
    have turn : ∀ s e, s ≤ q → q < e → e ≤ b.length → sumB ((b'.take e).drop s) ≠ sumB ((b.take e).drop s) := fun s e e1 e2 e3 => by
      rw [cut_at e1 e2 e3, cut_at (b := b') e1 e2 (by rw [hlen]; exact e3), (agr s q (.inl (Nat.le_refl _))).cut, (agr (q + 1) e (.inr (by omega))).cut]
      refine sum_turn _ _ _ _ ?_
      rw [← hgq b (by omega), ← hgq b' (by omega)]
      exact hne
    by_cases c0 : q = at_
    · subst c0; rw [g2, k2] at hne; exact hne rfl
    by_cases c1 : q < at_ + 13
    · have e1 := (agr (at_ + 13) (at_ + 17) (.inr (by omega))).four (i := at_ + 13) (Nat.le_refl _) (Nat.le_refl _)
      rw [e1, g3] at k3
      exact turn (at_ + 1) (at_ + 13) (by omega) c1 (by omega) k3.symm
    by_cases c2 : q < at_ + 17
    · have e1 := (agr (at_ + 1) (at_ + 13) (.inl (by omega))).cut
      rw [e1, ← g3] at k3
      have := fourL_inj k3 (q - (at_ + 13)) (by omega)
      rw [show at_ + 13 + (q - (at_ + 13)) = q by omega] at this
      exact hne this
    have e9 := (agr (at_ + 9) (at_ + 13) (.inl (by omega))).four (i := at_ + 9) (Nat.le_refl _) (Nat.le_refl _)
    rw [e9] at k5
    generalize hn : fourL (b.drop (at_ + 9)) = n at *
    by_cases c3 : q < at_ + 17 + n
    · have e1 := (agr (at_ + 17 + n) (at_ + 21 + n) (.inr (by omega))).four (i := at_ + 17 + n) (Nat.le_refl _) (by omega)
      rw [e1, g5] at k5
      exact turn (at_ + 17) (at_ + 17 + n) (by omega) c3 (by omega) k5.symm
    · have e1 := (agr (at_ + 17) (at_ + 17 + n) (.inl (by omega))).cut
      rw [e1, ← g5] at k5
      have := fourL_inj k5 (q - (at_ + 17 + n)) (by omega)
      rw [show at_ + 17 + n + (q - (at_ + 17 + n)) = q by omega] at this
      exact hne this

theorem take_getD (l : List Rc) (k : Nat) (hk : 0 < k) : (l.take k).getD 0 Rc.zero = l.getD 0 Rc.zero := by
  cases l with
  | nil => simp
  | cons x l => obtain ⟨k, rfl⟩ : ∃ j, k = j + 1 := ⟨k - 1, by omega⟩; rfl
/-- A byte of record k is changed: those ahead of it are read, if there are any; otherwise none of this half. -/
theorem cur_turned {b b' : List UInt8} {l : List Rc} {half size k q : Nat} {r : Rc} (hb : b.length = 2 * size) (hs : size ≤ 300000) (hcur : curB b = (l, half)) (hk : l[k]? = some r) (h1 : r.at_ ≤ q) (h2 : q < r.at_ + 21 + r.data.length) (hlen : b'.length = b.length)
    (hag : ∀ i, i ≠ q → b'[i]? = b[i]?) (hne : b'.getD q 0 ≠ b.getD q 0) :
    (0 < k → curB b' = (l.take k, half)) ∧ (k = 0 → curB b' = (recsB b' (1 - half), 1 - half) ∨ (curB b').1 = []) := by
  obtain ⟨c1, c2, c3, c4, c5⟩ := cur_facts hcur
  have hb6 : b.length ≤ 600000 := by omega
  obtain ⟨q1, q2, q3, q4, q5, q6, q7, q8⟩ := cur_rec hb hs hcur k r hk
  obtain ⟨hkl, rfl⟩ := List.getElem?_eq_some_iff.1 hk
  have hlo := loH_eq (h := half) hb
  have hhi := hiH_eq (h := half) hb
  have hge := (recsB_end (b := b) (h := half) hb6 c1 k).1
  have hstop : (recA b l[k].at_ ((half + 1) * size)).1.stop = l[k].at_ + 21 + l[k].data.length := by rw [q7]; rfl
  have hbad := recA_turned (b := b) (b' := b') (at_ := l[k].at_) (limit := (half + 1) * size) (q := q) q6 hlen (by rw [q7]) h1 (by rw [hstop]; exact h2) hag hne
  obtain ⟨m, hm, e⟩ := recsB_take (b := b) (b' := b') (h := half) (k := k) hb6 hlen c1 (by rw [← c2]; omega) (fun i _ hi => hag i (by
    rw [hlo, ← c2, ← q1] at hi; omega))
  rw [← c2, hlo, ← q1, hhi, recL_no (fun hh => by rw [hbad] at hh; cases hh.1), List.append_nil] at e
  rw [← c2, hlo, ← q1] at hge
  have hoth : recsB b' (1 - half) = recsB b (1 - half) := by
    refine recsB_agr hb6 hlen (by omega) (fun i hi1 hi2 => hag i ?_)
    rw [loH_eq hb] at hi1
    rw [hiH_eq hb] at hi2
    rcases (show half = 0 ∨ half = 1 by omega) with h | h
    · rw [h] at hi1 q5; simp at hi1 q5; omega
    · rw [h] at hi2 hge; simp at hi2 hge; omega
  refine ⟨fun hk0 => ?_, fun hk0 => ?_⟩
  · have hf := take_getD l k hk0
    have hlp : 0 < (l.take k).length := by rw [List.length_take]; omega
    rcases (show half = 0 ∨ half = 1 by omega) with h | h
    · subst h
      simp only [Nat.sub_zero] at hoth
      rw [curB_eq b', e, hoth, hf, if_neg]
      rintro ⟨x1, x2⟩
      rcases x2 with x2 | x2
      · omega
      · rcases c4 rfl with c4 | c4
        · rw [c4] at x1; simp at x1
        · exact c4.2 x2
    · subst h
      simp only [Nat.sub_self] at hoth
      rw [curB_eq b', e, hoth, hf, if_pos]
      refine ⟨hlp, ?_⟩
      rcases c5 rfl with c5 | c5
      · left; rw [c5]; rfl
      · right; exact c5
  · subst hk0
    rw [List.take_zero] at e
    rcases (show half = 0 ∨ half = 1 by omega) with h | h
    · subst h
      rw [curB_eq b', e]
      by_cases hx : 0 < (recsB b' 1).length
      · left; rw [if_pos ⟨hx, .inl rfl⟩]
      · right; rw [if_neg (fun hh => hx hh.1)]
    · subst h
      rw [curB_eq b', e, if_neg (by simp)]
      left; rfl
/-- None of the records read stands where the half's records stood. -/
theorem cur_turned0 {b b' : List UInt8} {l : List Rc} {half size q : Nat} {r0 : Rc} (hb : b.length = 2 * size) (hs : size ≤ 300000) (hcur : curB b = (l, half)) (hk : l[0]? = some r0) (h1 : r0.at_ ≤ q) (h2 : q < r0.at_ + 21 + r0.data.length) (hlen : b'.length = b.length)
    (hag : ∀ i, i ≠ q → b'[i]? = b[i]?) (hne : b'.getD q 0 ≠ b.getD q 0) (i : Nat) (r rl : Rc) (hr : (curB b').1[i]? = some r) (hrl : l[l.length - 1]? = some rl) : ¬ (r0.at_ ≤ r.at_ ∧ r.at_ < rl.at_ + 21 + rl.data.length) := by
  obtain ⟨_, h0⟩ := cur_turned hb hs hcur hk h1 h2 hlen hag hne
  obtain ⟨c1, _⟩ := cur_facts hcur
  obtain ⟨q1, _⟩ := cur_rec hb hs hcur 0 r0 hk
  obtain ⟨_, _, _, _, t5, _⟩ := cur_rec hb hs hcur _ rl hrl
  simp only [List.take_zero, endL] at q1
  rcases h0 rfl with h | h
  · rw [h] at hr
    obtain ⟨y1, y2, y3, y4, y5, y6, y7, y8⟩ := cur_rec (b := b') (half := 1 - half) (l := recsB b' (1 - half)) (by rw [hlen]; exact hb) hs h i r hr
    have hge := (recsB_end (b := b') (h := 1 - half) (by omega) (by omega) i).1
    rw [loH_eq (size := size) (by rw [hlen]; exact hb), ← y1] at hge
    rcases (show half = 0 ∨ half = 1 by omega) with hh | hh
    · subst hh; simp at *; omega
    · subst hh; simp at *; omega
  · rw [h] at hr; simp at hr
end Go.Proofs.Ytggdljhmbckpmaa
