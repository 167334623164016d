/- Plain laws on records: the current half behind an append, or in the midst of one. -/
import Derived.Test.YtggdljhmbckpmaaQ2
set_option linter.unusedVariables false
set_option linter.unusedSimpArgs false
namespace Go.Proofs.Ytggdljhmbckpmaa

theorem cur_facts {b : List UInt8} {l : List Rc} {half : Nat} (h : curB b = (l, half)) : half ≤ 1 ∧ l = recsB b half ∧ (l = [] → half = 0 ∧ recsB b 0 = [] ∧ recsB b 1 = []) ∧
    (half = 0 → recsB b 1 = [] ∨ (0 < l.length ∧ ¬ (l.getD 0 Rc.zero).epoch < ((recsB b 1).getD 0 Rc.zero).epoch)) ∧ (half = 1 → recsB b 0 = [] ∨ ((recsB b 0).getD 0 Rc.zero).epoch < (l.getD 0 Rc.zero).epoch) := by
  rw [curB_eq] at h
  split at h
  · rename_i hc
    injection h with h1 h2
    subst h1 h2
    refine ⟨Nat.le_refl _, rfl, fun h0 => ?_, fun h0 => (by cases h0), fun _ => ?_⟩
    · rw [h0] at hc; simp at hc
    · rcases hc.2 with h | h
      · exact .inl (List.eq_nil_of_length_eq_zero h)
      · exact .inr h
  · rename_i hc
    injection h with h1 h2
    subst h1 h2
    have h3 : recsB b 1 = [] ∨ (0 < (recsB b 0).length ∧ ¬ ((recsB b 0).getD 0 Rc.zero).epoch < ((recsB b 1).getD 0 Rc.zero).epoch) := by
      rcases Nat.eq_zero_or_pos (recsB b 1).length with h | h
      · exact .inl (List.eq_nil_of_length_eq_zero h)
      · refine .inr ⟨?_, fun hh => hc ⟨h, .inr hh⟩⟩
        rcases Nat.eq_zero_or_pos (recsB b 0).length with h' | h'
        · exact absurd ⟨h, .inl h'⟩ hc
        · exact h'
    refine ⟨Nat.zero_le _, rfl, fun h0 => ⟨rfl, h0, ?_⟩, fun _ => h3, fun h0 => by cases h0⟩
    rcases h3 with h3 | h3
    · exact h3
    · rw [h0] at h3; simp at h3
theorem loH_eq {b : List UInt8} {size h : Nat} (hb : b.length = 2 * size) : loH b h = h * size := by
  unfold loH; rw [hb, Nat.mul_left_comm, Nat.mul_div_cancel_left _ (by decide)]
theorem hiH_eq {b : List UInt8} {size h : Nat} (hb : b.length = 2 * size) : hiH b h = (h + 1) * size := by
  unfold hiH; rw [hb, Nat.mul_left_comm, Nat.mul_div_cancel_left _ (by decide)]
theorem getD_last {l : List Rc} (h : l ≠ []) : l.getD (l.length - 1) Rc.zero = l[l.length - 1]'(by have := List.length_pos_iff.2 h; omega) := by
  have := List.length_pos_iff.2 h
  simp [List.getD, show l.length - 1 < l.length by omega]
theorem chain_of {b : List UInt8} {l : List Rc} {h : Nat} (hb : b.length ≤ 600000) (hh : h ≤ 1) (e : l = recsB b h) : ∀ i (hi : i < l.length),
    l[i].at_ = endL (loH b h) (l.take i) ∧ l[i].seq = i ∧ l[i].epoch = (l[0]'(by omega)).epoch ∧ recA b l[i].at_ (hiH b h) = (l[i], true) ∧ endL (loH b h) (l.take (i + 1)) = l[i].stop := by
  subst e; exact recsB_chain hb hh
/-- Where an append puts its record. -/
theorem spot_facts {b : List UInt8} {l : List Rc} {half size n : Nat} {p : Spot} (hb : b.length = 2 * size) (hs : size ≤ 300000) (hcur : curB b = (l, half)) (hn : n ≤ size) (hp : spotB l half size n = p) :
    (p.half = half ∧ p.at_ = endL (loH b half) l ∧ p.seq = l.length ∧ p.at_ + n ≤ (p.half + 1) * size ∧ (∀ e, epL none l = some e → p.epoch = e) ∧ (l = [] → p.epoch = 1) ∧ (l ≠ [] → p.epoch = (l.getD 0 Rc.zero).epoch)) ∨
    (p.half = 1 - half ∧ l ≠ [] ∧ p.at_ = (1 - half) * size ∧ p.seq = 0 ∧ p.epoch = (l.getD 0 Rc.zero).epoch + 1) := by
  obtain ⟨c1, c2, c3, c4, c5⟩ := cur_facts hcur
  have hb6 : b.length ≤ 600000 := by omega
  by_cases hl : l = []
  · obtain ⟨c6, c7, c8⟩ := c3 hl
    subst hl
    left
    unfold spotB at hp
    rw [if_pos (show ([] : List Rc).length = 0 from rfl)] at hp
    subst hp; subst c6
    refine ⟨rfl, by simp [endL, loH], rfl, by simp; omega, fun e he => by simp [epL] at he, fun _ => rfl, fun h => absurd rfl h⟩
  · have hlp := List.length_pos_iff.2 hl
    have hch := chain_of hb6 c1 c2
    have hen := recsB_end (b := b) (h := half) hb6 c1 l.length
    rw [← c2] at hen
    have hlast := hch (l.length - 1) (by omega)
    have h0 := getD_rc l hlp
    unfold spotB at hp
    rw [if_neg (by omega), getD_last hl] at hp
    have hee : endL (loH b half) l = (l[l.length - 1]'(by omega)).stop := by
      have := hlast.2.2.2.2
      rw [show l.length - 1 + 1 = l.length by omega, List.take_length] at this
      exact this
    split at hp
    · right
      subst hp
      refine ⟨rfl, hl, rfl, rfl, ?_⟩
      simp only
      rw [hlast.2.2.1, h0]
    · left
      rename_i hroom
      subst hp
      refine ⟨rfl, hee.symm, ?_, ?_, ?_, fun h => absurd h hl, fun _ => ?_⟩
      · simp only; rw [hlast.2.1]; omega
      · simp only; omega
      · intro e he
        simp only
        have := epL_chain l none (l[0]'hlp).epoch (fun r hr => by
          obtain ⟨i, hi, rfl⟩ := List.mem_iff_getElem.1 hr
          exact (hch i hi).2.2.1) (fun h => absurd h hl)
        rw [this] at he
        injection he with he
        rw [← he]
        exact hlast.2.2.1
      · simp only; rw [hlast.2.2.1, h0]

theorem agr_parts {b' W : List UInt8} {a : Nat} (h : ∀ k, k < W.length → b'[a + k]? = W[k]?) (hl : a + W.length ≤ b'.length) : b' = b'.take a ++ W ++ b'.drop (a + W.length) := by
  apply List.ext_getElem?
  intro i
  have ht : (b'.take a).length = a := by simp; omega
  by_cases h1 : i < a
  · rw [List.append_assoc, List.getElem?_append_left (by omega), List.getElem?_take, if_pos h1]
  · by_cases h2 : i < a + W.length
    · rw [List.append_assoc, List.getElem?_append_right (by omega), ht, List.getElem?_append_left (by omega), ← h (i - a) (by omega)]
      congr 1; omega
    · rw [List.append_assoc, List.getElem?_append_right (by omega), ht, List.getElem?_append_right (by omega), List.getElem?_drop]
      congr 1; omega
/-- What is read of the half that is written. -/
theorem half_written {b b' : List UInt8} {l : List Rc} {half size n : Nat} {p : Spot} (hb : b.length = 2 * size) (hs : size ≤ 300000) (hcur : curB b = (l, half)) (hn : n ≤ size) (hp : spotB l half size n = p)
    (hl : b'.length = b.length) (hag : ∀ i, i < p.at_ → b'[i]? = b[i]?) :
    ∃ m ep, 0 < m ∧ (∀ e, ep = some e → p.epoch = e) ∧ recsB b' p.half = (if p.half = half then l else []) ++ recL b' ((p.half + 1) * size) m p.at_ p.seq ep ∧ p.half ≤ 1 ∧ p.at_ + n ≤ (p.half + 1) * size ∧ p.half * size ≤ p.at_ := by
  obtain ⟨c1, c2, c3, c4, c5⟩ := cur_facts hcur
  have hb6 : b.length ≤ 600000 := by omega
  rcases spot_facts hb hs hcur hn hp with ⟨s1, s2, s3, s4, s5, s6, s7⟩ | ⟨s1, s2, s3, s4, s5⟩
  · have hen := recsB_end (b := b) (h := half) hb6 c1 (recsB b half).length
    obtain ⟨m, hm, e⟩ := recsB_take (b := b) (b' := b') (h := half) (k := (recsB b half).length) hb6 hl c1 (Nat.le_refl _) (fun i _ hi => hag i (by
      rw [List.take_length, ← c2] at hi; rw [s2]; exact hi))
    rw [List.take_length] at e hen
    have hh := (half_le (b := b) c1).2
    refine ⟨m, epL none l, by omega, s5, ?_, by omega, s4, ?_⟩
    · rw [s1, if_pos rfl, e, ← c2, ← s2, ← s3, hiH_eq hb]
    · rw [s1, s2, c2]
      have := hen.1
      rw [loH_eq hb] at this ⊢
      omega
  · have hh1 : 1 - half ≤ 1 := by omega
    obtain ⟨m, hm, e⟩ := recsB_take (b := b) (b' := b') (h := 1 - half) (k := 0) hb6 hl hh1 (Nat.zero_le _) (fun i h1 hi => by
      simp [endL] at hi; omega)
    simp only [List.take_zero, endL, epL, List.nil_append] at e
    have hz : (1 - half) * size + size = (1 - half + 1) * size := by rw [Nat.add_mul, Nat.one_mul]
    refine ⟨m, none, by omega, fun e he => (by cases he), ?_, by omega, by rw [s3, s1]; omega, by rw [s1, s3]; exact Nat.le_refl _⟩
    rw [s1, if_neg (by omega), e, s3, s4, loH_eq hb, hiH_eq hb]; rfl
/-- The other half. -/
theorem half_other {b b' : List UInt8} {size : Nat} {p : Spot} (hb : b.length = 2 * size) (hs : size ≤ 300000) (hl : b'.length = b.length) (h1 : p.half ≤ 1) (h2 : p.half * size ≤ p.at_) (hag : ∀ i, (i < p.at_ ∨ (p.half + 1) * size ≤ i) → b'[i]? = b[i]?) : recsB b' (1 - p.half) = recsB b (1 - p.half) := by
  refine recsB_agr (by omega) hl (by omega) (fun i hi1 hi2 => hag i ?_)
  rw [loH_eq hb] at hi1
  rw [hiH_eq hb] at hi2
  rcases (show p.half = 0 ∨ p.half = 1 by omega) with h | h
  · rw [h] at hi1 hi2 h2 ⊢
    simp at hi1
    right; omega
  · rw [h] at hi1 hi2 h2 ⊢
    simp at hi2
    left; omega
theorem getD_app (l : List Rc) (r : Rc) (h : l ≠ []) : (l ++ [r]).getD 0 Rc.zero = l.getD 0 Rc.zero := by
  cases l with
  | nil => exact absurd rfl h
  | cons x l => rfl
/-- The whole record is there: it is read, behind those of before, or alone in the other half. -/
theorem cur_whole {b b' data : List UInt8} {l : List Rc} {half size : Nat} {p : Spot} (hb : b.length = 2 * size) (hs : size ≤ 300000) (hcur : curB b = (l, half)) (hn : 21 + data.length ≤ size) (hp : spotB l half size (21 + data.length) = p)
    (hl : b'.length = b.length) (hag : ∀ i, (i < p.at_ ∨ (p.half + 1) * size ≤ i) → b'[i]? = b[i]?) (hep : p.epoch ≤ 2147483647) (hsq : p.seq ≤ 2147483647)
    (hrec : ∀ k, k < 21 + data.length → b'[p.at_ + k]? = (wholeB p.epoch p.seq data)[k]?) (hend : p.at_ + 21 + data.length < (p.half + 1) * size → b'[p.at_ + 21 + data.length]? = some 0) :
    curB b' = ((if p.half = half then l else []) ++ [⟨p.at_, p.epoch, p.seq, data⟩], p.half) := by
  obtain ⟨c1, c2, c3, c4, c5⟩ := cur_facts hcur
  obtain ⟨m, ep, h1, h2, h3, h4, h5, h6⟩ := half_written hb hs hcur hn hp hl (fun i hi => hag i (.inl hi))
  have hoth := half_other hb hs hl h4 h6 hag
  have hw := wholeB_length p.epoch p.seq data
  have hlim : (p.half + 1) * size ≤ b'.length := by
    rw [hl, hb]; exact Nat.mul_le_mul_right _ (by omega)
  have hb' := agr_parts (b' := b') (W := wholeB p.epoch p.seq data) (a := p.at_) (fun k hk => hrec k (by omega)) (by omega)
  have ht : (b'.take p.at_).length = p.at_ := by simp; omega
  have hrecA : recA b' p.at_ ((p.half + 1) * size) = (⟨p.at_, p.epoch, p.seq, data⟩, true) := by
    have := recA_whole (b'.take p.at_) (b'.drop (p.at_ + (wholeB p.epoch p.seq data).length)) data p.epoch p.seq ((p.half + 1) * size) (by omega) (by omega) (by omega) (by rw [ht]; omega) (by rw [← hb']; exact hlim)
    rw [← hb', ht] at this
    exact this
  have hone : recL b' ((p.half + 1) * size) m p.at_ p.seq ep = [⟨p.at_, p.epoch, p.seq, data⟩] := by
    rw [recL_yes h1 (by rw [hrecA]; exact ⟨rfl, rfl, h2⟩), hrecA]
    rw [recL_none]
    simp only [Rc.stop]
    by_cases hx : p.at_ + 21 + data.length < (p.half + 1) * size
    · right
      simp [List.getD, hend hx]
    · left; omega
  rw [hone] at h3
  have hnew : (if p.half = half then l else []) ++ [(⟨p.at_, p.epoch, p.seq, data⟩ : Rc)] ≠ [] := by simp
  have hnp : 0 < ((if p.half = half then l else []) ++ [(⟨p.at_, p.epoch, p.seq, data⟩ : Rc)]).length := by simp
  -- the first record's epoch
  have hfirst : (((if p.half = half then l else []) ++ [(⟨p.at_, p.epoch, p.seq, data⟩ : Rc)]).getD 0 Rc.zero).epoch = p.epoch := by
    rcases spot_facts hb hs hcur hn hp with ⟨s1, s2, s3, s4, s5, s6, s7⟩ | ⟨s1, s2, s3, s4, s5⟩
    · rw [if_pos s1]
      by_cases hln : l = []
      · rw [hln]; rfl
      · rw [getD_app _ _ hln, s7 hln]
    · rw [if_neg (by omega)]; rfl
  generalize hL : (if p.half = half then l else []) ++ [(⟨p.at_, p.epoch, p.seq, data⟩ : Rc)] = L at *
  rcases (show p.half = 0 ∨ p.half = 1 by omega) with hph | hph
  · rw [hph] at h3 hoth ⊢
    simp only [Nat.sub_zero] at hoth
    rw [curB_eq, h3, hoth, if_neg]
    rintro ⟨q1, q2⟩
    rcases q2 with q2 | q2
    · omega
    · rw [hfirst] at q2
      rcases spot_facts hb hs hcur hn hp with ⟨s1, s2, s3, s4, s5, s6, s7⟩ | ⟨s1, s2, s3, s4, s5⟩
      · rcases c4 (by omega) with c4 | c4
        · rw [c4] at q1; simp at q1
        · have := s7 (List.length_pos_iff.1 c4.1)
          rw [this] at q2
          exact c4.2 q2
      · have : half = 1 := by omega
        rw [this] at c2
        rw [← c2] at q2
        omega
  · rw [hph] at h3 hoth ⊢
    simp only [Nat.sub_self] at hoth
    rw [curB_eq, h3, hoth, if_pos]
    refine ⟨hnp, ?_⟩
    rw [hfirst]
    rcases spot_facts hb hs hcur hn hp with ⟨s1, s2, s3, s4, s5, s6, s7⟩ | ⟨s1, s2, s3, s4, s5⟩
    · have h1' : half = 1 := by omega
      rcases c5 h1' with c5 | c5
      · left; rw [c5]; rfl
      · right
        have hln : l ≠ [] := fun h => by have := (c3 h).1; omega
        rw [s7 hln]; exact c5
    · have : half = 0 := by omega
      rw [this] at c2
      rw [← c2]
      right; omega
/-- No record begins at the new one's place: all is as before. -/
theorem cur_blank {b b' : List UInt8} {l : List Rc} {half size n : Nat} {p : Spot} (hb : b.length = 2 * size) (hs : size ≤ 300000) (hcur : curB b = (l, half)) (hn : n ≤ size) (hp : spotB l half size n = p)
    (hl : b'.length = b.length) (hag : ∀ i, (i < p.at_ ∨ (p.half + 1) * size ≤ i) → b'[i]? = b[i]?) (h0 : b'.getD p.at_ 0 ≠ 167) : curB b' = (l, half) := by
  obtain ⟨c1, c2, c3, c4, c5⟩ := cur_facts hcur
  obtain ⟨m, ep, h1, h2, h3, h4, h5, h6⟩ := half_written hb hs hcur hn hp hl (fun i hi => hag i (.inl hi))
  have hoth := half_other hb hs hl h4 h6 hag
  rw [recL_none (.inr h0), List.append_nil] at h3
  rw [← hcur]
  rcases spot_facts hb hs hcur hn hp with ⟨s1, s2, s3, s4, s5, s6, s7⟩ | ⟨s1, s2, s3, s4, s5⟩
  · rw [if_pos s1, s1] at h3
    rw [s1] at hoth
    rcases (show half = 0 ∨ half = 1 by omega) with hh | hh
    · subst hh
      simp only [Nat.sub_zero] at hoth
      rw [curB_eq b', curB_eq b, h3, hoth, ← c2]
    · subst hh
      simp only [Nat.sub_self] at hoth
      rw [curB_eq b', curB_eq b, h3, hoth, ← c2]
  · rw [if_neg (by omega)] at h3
    rw [hcur]
    have hlp := List.length_pos_iff.2 s2
    rcases (show half = 0 ∨ half = 1 by omega) with hh | hh
    · subst hh
      rw [s1] at h3 hoth
      simp only [Nat.sub_zero, Nat.sub_self] at h3 hoth
      rw [curB_eq b', h3, hoth, ← c2, if_neg (by simp)]
    · subst hh
      rw [s1] at h3 hoth
      simp only [Nat.sub_zero, Nat.sub_self] at h3 hoth
      rw [curB_eq b', h3, hoth, ← c2, if_pos ⟨hlp, .inl rfl⟩]
end Go.Proofs.Ytggdljhmbckpmaa
