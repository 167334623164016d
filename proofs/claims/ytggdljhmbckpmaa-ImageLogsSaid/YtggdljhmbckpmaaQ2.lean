/- Plain laws on records: chains of records, the current half, a record appended. -/
import Derived.Test.YtggdljhmbckpmaaQ1
set_option linter.unusedVariables false
set_option linter.unusedSimpArgs false
namespace Go.Proofs.Ytggdljhmbckpmaa

def endL : Nat → List Rc → Nat
  | a, [] => a
  | a, r :: l => endL r.stop l
def epL : Option Nat → List Rc → Option Nat
  | e, [] => e
  | e, r :: l => epL (some r.epoch) l
def Good (b : List UInt8) (limit at_ seq : Nat) (ep : Option Nat) : Prop := (recA b at_ limit).2 = true ∧ (recA b at_ limit).1.seq = seq ∧ (∀ e, ep = some e → (recA b at_ limit).1.epoch = e)
instance (b : List UInt8) (limit at_ seq : Nat) (ep : Option Nat) : Decidable (Good b limit at_ seq ep) := by
  unfold Good
  cases ep with
  | none => exact decidable_of_iff ((recA b at_ limit).2 = true ∧ (recA b at_ limit).1.seq = seq) (by simp)
  | some e => exact decidable_of_iff ((recA b at_ limit).2 = true ∧ (recA b at_ limit).1.seq = seq ∧ (recA b at_ limit).1.epoch = e) (by simp)
theorem endL_ge {b : List UInt8} {limit : Nat} (hl : limit ≤ b.length) (hl6 : limit ≤ 600000) : ∀ (m at_ seq : Nat) (ep : Option Nat) (k : Nat), at_ ≤ limit → at_ + 21 * ((recL b limit m at_ seq ep).take k).length ≤ endL at_ ((recL b limit m at_ seq ep).take k) ∧ endL at_ ((recL b limit m at_ seq ep).take k) ≤ limit
  | 0, at_, seq, ep, k, h => by simp [recL, endL]; exact h
  | m + 1, at_, seq, ep, 0, h => by simp [endL]; exact h
  | m + 1, at_, seq, ep, k + 1, h => by
    unfold recL
    split
    · rename_i hc
      obtain ⟨h1, h2, h3, h4⟩ := recA_ok hl6 hc.1
      have ih := endL_ge hl hl6 m (recA b at_ limit).1.stop (seq + 1) (some (recA b at_ limit).1.epoch) k h3
      simp only [List.take_succ_cons, List.length_cons, endL]
      omega
    · simp [endL]; exact h
theorem recL_take {b b' : List UInt8} {limit : Nat} (hl : limit ≤ b.length) (hl6 : limit ≤ 600000) : ∀ (m at_ seq : Nat) (ep : Option Nat) (k : Nat), at_ ≤ limit → k ≤ (recL b limit m at_ seq ep).length → Agr b b' at_ (endL at_ ((recL b limit m at_ seq ep).take k)) →
    recL b' limit m at_ seq ep = (recL b limit m at_ seq ep).take k ++ recL b' limit (m - k) (endL at_ ((recL b limit m at_ seq ep).take k)) (seq + k) (epL ep ((recL b limit m at_ seq ep).take k))
  | m, at_, seq, ep, 0, h, _, _ => by simp [endL, epL]
  | 0, at_, seq, ep, k + 1, h, hk, _ => by simp [recL] at hk
  | m + 1, at_, seq, ep, k + 1, h, hk, ha => by
    by_cases hc : (recA b at_ limit).2 = true ∧ (recA b at_ limit).1.seq = seq ∧ (∀ e, ep = some e → (recA b at_ limit).1.epoch = e)
    · have e1 : recL b limit (m + 1) at_ seq ep = (recA b at_ limit).1 :: recL b limit m (recA b at_ limit).1.stop (seq + 1) (some (recA b at_ limit).1.epoch) := by rw [recL, if_pos hc]
      rw [e1] at hk ha ⊢
      simp only [List.take_succ_cons, endL, epL, List.length_cons] at hk ha ⊢
      obtain ⟨h1, h2, h3, h4⟩ := recA_ok hl6 hc.1
      have hge := endL_ge hl hl6 m (recA b at_ limit).1.stop (seq + 1) (some (recA b at_ limit).1.epoch) k h3
      have hrec := recA_agr hl hc.1 (ha.sub (Nat.le_refl _) (by omega))
      have ih := recL_take hl hl6 m (recA b at_ limit).1.stop (seq + 1) (some (recA b at_ limit).1.epoch) k h3 (by omega) (ha.sub (by omega) (Nat.le_refl _))
      rw [recL, hrec, if_pos hc, ih]
      simp only [List.cons_append, Nat.add_sub_add_right, Nat.add_assoc, Nat.add_comm 1 k]
    · have e1 : recL b limit (m + 1) at_ seq ep = [] := by rw [recL, if_neg hc]
      rw [e1] at hk; simp at hk
/-- Each record of a chain: where it stands, its number, its epoch; and that it is read there. -/
theorem recL_chain {b : List UInt8} {limit : Nat} (hl : limit ≤ b.length) (hl6 : limit ≤ 600000) : ∀ (m at_ seq : Nat) (ep : Option Nat), at_ ≤ limit → ∀ i (hi : i < (recL b limit m at_ seq ep).length),
    (recL b limit m at_ seq ep)[i].at_ = endL at_ ((recL b limit m at_ seq ep).take i) ∧ (recL b limit m at_ seq ep)[i].seq = seq + i ∧ (∀ e, ep = some e → (recL b limit m at_ seq ep)[i].epoch = e) ∧ (recL b limit m at_ seq ep)[i].epoch = ((recL b limit m at_ seq ep)[0]'(by omega)).epoch ∧
    recA b (recL b limit m at_ seq ep)[i].at_ limit = ((recL b limit m at_ seq ep)[i], true) ∧ endL at_ ((recL b limit m at_ seq ep).take (i + 1)) = (recL b limit m at_ seq ep)[i].stop
  | 0, at_, seq, ep, h, i, hi => by simp [recL] at hi
  | m + 1, at_, seq, ep, h, i, hi => by
    by_cases hc : (recA b at_ limit).2 = true ∧ (recA b at_ limit).1.seq = seq ∧ (∀ e, ep = some e → (recA b at_ limit).1.epoch = e)
    · have e1 : recL b limit (m + 1) at_ seq ep = (recA b at_ limit).1 :: recL b limit m (recA b at_ limit).1.stop (seq + 1) (some (recA b at_ limit).1.epoch) := by rw [recL, if_pos hc]
      simp only [e1] at hi ⊢
      obtain ⟨h1, h2, h3, h4⟩ := recA_ok hl6 hc.1
      cases i with
      | zero =>
        refine ⟨by simpa [endL] using h2, hc.2.1, hc.2.2, rfl, ?_, by simp [endL]⟩
        simp only [List.getElem_cons_zero]
        rw [h2]
        exact Prod.ext rfl hc.1
      | succ i =>
        simp only [List.length_cons] at hi
        have ih := recL_chain hl hl6 m (recA b at_ limit).1.stop (seq + 1) (some (recA b at_ limit).1.epoch) h3 i (by omega)
        obtain ⟨i1, i2, i3, i4, i5, i6⟩ := ih
        simp only [List.getElem_cons_succ, List.getElem_cons_zero, List.take_succ_cons, endL]
        refine ⟨i1, by omega, fun e he => ?_, ?_, i5, i6⟩
        · rw [i3 _ rfl]; exact hc.2.2 e he
        · exact i3 _ rfl
    · have e1 : recL b limit (m + 1) at_ seq ep = [] := by rw [recL, if_neg hc]
      simp [e1] at hi
theorem epL_chain : ∀ (l : List Rc) (ep : Option Nat) (e : Nat), (∀ r ∈ l, r.epoch = e) → (l = [] → ep = some e) → epL ep l = some e
  | [], ep, e, h, h0 => h0 rfl
  | r :: l, ep, e, h, h0 => epL_chain l (some r.epoch) e (fun x hx => h x (by simp [hx])) (fun _ => by rw [h r (by simp)])

/-! ### the halves -/
theorem recsB0 {b : List UInt8} : recsB b 0 = recL b (b.length / 2) (b.length + 1) 0 0 none := by simp [recsB]
theorem recsB1 {b : List UInt8} : recsB b 1 = recL b b.length (b.length + 1) (b.length / 2) 0 none := by
  unfold recsB
  rw [show (1 + 1) * b.length / 2 = b.length by omega, Nat.one_mul]
theorem curN_succ (xs : List UInt8) (h : Nat) : curN xs (h + 1) = if 0 < (recsB xs h).length ∧ ((curN xs h).1.length = 0 ∨ ((curN xs h).1.getD 0 Rc.zero).epoch < ((recsB xs h).getD 0 Rc.zero).epoch) then (recsB xs h, h) else curN xs h := rfl
theorem curN_one (b : List UInt8) : curN b 1 = (recsB b 0, 0) := by
  rw [curN_succ]
  by_cases h : 0 < (recsB b 0).length
  · rw [if_pos ⟨h, .inl rfl⟩]
  · rw [if_neg (fun hh => h hh.1)]
    have : recsB b 0 = [] := List.eq_nil_of_length_eq_zero (by omega)
    rw [this]; rfl
theorem curB_eq (b : List UInt8) : curB b = if 0 < (recsB b 1).length ∧ ((recsB b 0).length = 0 ∨ ((recsB b 0).getD 0 Rc.zero).epoch < ((recsB b 1).getD 0 Rc.zero).epoch) then (recsB b 1, 1) else (recsB b 0, 0) := by
  unfold curB
  rw [curN_succ]
  simp only [curN_one]
/-- A half's first place and limit. -/
def loH (b : List UInt8) (h : Nat) : Nat := h * b.length / 2
def hiH (b : List UInt8) (h : Nat) : Nat := (h + 1) * b.length / 2
theorem Agr.symm {b b' : List UInt8} {lo hi : Nat} (h : Agr b b' lo hi) : Agr b' b lo hi := fun i h1 h2 => (h i h1 h2).symm
theorem recL_agr {b b' : List UInt8} {limit : Nat} (hl : limit ≤ b.length) (hl' : limit ≤ b'.length) (hl6 : limit ≤ 600000) : ∀ (m at_ seq : Nat) (ep : Option Nat), Agr b b' at_ limit → recL b' limit m at_ seq ep = recL b limit m at_ seq ep
  | 0, _, _, _, _ => rfl
  | m + 1, at_, seq, ep, ha => by
    by_cases hc : (recA b at_ limit).2 = true
    · obtain ⟨h1, h2, h3, h4⟩ := recA_ok hl6 hc
      have e := recA_agr hl hc (ha.sub (Nat.le_refl _) h3)
      rw [recL, recL, e]
      have ih := recL_agr hl hl' hl6 m (recA b at_ limit).1.stop (seq + 1) (some (recA b at_ limit).1.epoch) (ha.sub (by omega) (Nat.le_refl _))
      rw [ih]
    · by_cases hc' : (recA b' at_ limit).2 = true
      · obtain ⟨h1, h2, h3, h4⟩ := recA_ok hl6 hc'
        have e := recA_agr hl' hc' (ha.symm.sub (Nat.le_refl _) h3)
        rw [← e] at hc'
        exact absurd hc' hc
      · rw [recL, recL, if_neg (fun h => hc' h.1), if_neg (fun h => hc h.1)]
theorem half_le {b : List UInt8} {h : Nat} (hh : h ≤ 1) : loH b h ≤ hiH b h ∧ hiH b h ≤ b.length := by
  unfold loH hiH
  rcases (show h = 0 ∨ h = 1 by omega) with rfl | rfl <;> simp <;> omega
theorem recsB_agr {b b' : List UInt8} {h : Nat} (hb : b.length ≤ 600000) (hl : b'.length = b.length) (hh : h ≤ 1) (ha : Agr b b' (loH b h) (hiH b h)) : recsB b' h = recsB b h := by
  have hle := half_le (b := b) hh
  unfold recsB
  rw [hl]
  exact recL_agr (b := b) hle.2 (by rw [hl]; exact hle.2) (by have := hle.2; unfold hiH at this; omega) _ _ _ _ ha
/-- The first k records of a half stay; behind them whatever is read there. -/
theorem recsB_take {b b' : List UInt8} {h k : Nat} (hb : b.length ≤ 600000) (hl : b'.length = b.length) (hh : h ≤ 1) (hk : k ≤ (recsB b h).length) (ha : Agr b b' (loH b h) (endL (loH b h) ((recsB b h).take k))) :
    ∃ m, k + m = b.length + 1 ∧ recsB b' h = (recsB b h).take k ++ recL b' (hiH b h) m (endL (loH b h) ((recsB b h).take k)) k (epL none ((recsB b h).take k)) := by
  have hle := half_le (b := b) hh
  have hl6 : hiH b h ≤ 600000 := by omega
  have hge := endL_ge hle.2 hl6 (b.length + 1) (loH b h) 0 none k hle.1
  have := recL_take (b := b) (b' := b') hle.2 hl6 (b.length + 1) (loH b h) 0 none k hle.1 hk ha
  have hkl : ((recsB b h).take k).length = k := by rw [List.length_take, Nat.min_eq_left hk]
  have hkl' : ((recL b (hiH b h) (b.length + 1) (loH b h) 0 none).take k).length = k := hkl
  refine ⟨b.length + 1 - k, by omega, ?_⟩
  rw [Nat.zero_add] at this
  unfold recsB
  rw [hl]
  exact this
/-- What is known of the records of a half. -/
theorem recsB_chain {b : List UInt8} {h : Nat} (hb : b.length ≤ 600000) (hh : h ≤ 1) (i : Nat) (hi : i < (recsB b h).length) :
    (recsB b h)[i].at_ = endL (loH b h) ((recsB b h).take i) ∧ (recsB b h)[i].seq = i ∧ (recsB b h)[i].epoch = ((recsB b h)[0]'(by omega)).epoch ∧
    recA b (recsB b h)[i].at_ (hiH b h) = ((recsB b h)[i], true) ∧ endL (loH b h) ((recsB b h).take (i + 1)) = (recsB b h)[i].stop := by
  have hle := half_le (b := b) hh
  obtain ⟨h1, h2, h3, h4, h5, h6⟩ := recL_chain (b := b) hle.2 (by omega) (b.length + 1) (loH b h) 0 none hle.1 i hi
  exact ⟨h1, by rw [Nat.zero_add] at h2; exact h2, h4, h5, h6⟩
theorem recsB_end {b : List UInt8} {h : Nat} (hb : b.length ≤ 600000) (hh : h ≤ 1) (k : Nat) : loH b h + 21 * ((recsB b h).take k).length ≤ endL (loH b h) ((recsB b h).take k) ∧ endL (loH b h) ((recsB b h).take k) ≤ hiH b h :=
  endL_ge (half_le (b := b) hh).2 (by have := (half_le (b := b) hh).2; omega) (b.length + 1) (loH b h) 0 none k (half_le (b := b) hh).1
theorem recL_none {b : List UInt8} {limit m at_ seq : Nat} {ep : Option Nat} (h : limit < at_ + 17 ∨ b.getD at_ 0 ≠ 167) : recL b limit m at_ seq ep = [] := by
  refine recL_no (fun hh => ?_)
  have := hh.1
  unfold recA at this
  rcases h with h | h
  · rw [if_pos h] at this; cases this
  · split at this
    · cases this
    · first
        | (cases this; done)
        | (split at this
           · cases this
           · contradiction)
/-- All bytes of a record at its place: it is read. -/
theorem recA_whole (pre post data : List UInt8) (e s limit : Nat) (he : e < 4294967296) (hs : s < 4294967296) (hd : data.length < 4294967296) (hl : pre.length + 21 + data.length ≤ limit) (hlb : limit ≤ (pre ++ wholeB e s data ++ post).length) :
    recA (pre ++ wholeB e s data ++ post) pre.length limit = (⟨pre.length, e, s, data⟩, true) := by
  have hw := wholeB_length e s data
  have d0 : ∀ k, (pre ++ wholeB e s data ++ post).drop (pre.length + k) = (wholeB e s data ++ post).drop k := fun k => by
    rw [List.append_assoc, ← List.drop_drop, List.drop_left]
  have t0 : ∀ k j, ((pre ++ wholeB e s data ++ post).take (pre.length + k)).drop (pre.length + j) = ((wholeB e s data ++ post).take k).drop j := fun k j => by
    rw [List.append_assoc, List.take_length_add_append, ← List.drop_drop, List.drop_left]
  have w : wholeB e s data ++ post = 167 :: (le4 e ++ (le4 s ++ (le4 data.length ++ (le4 (sumB ((headB e s data.length).drop 1)) ++ (data ++ (le4 (sumB data) ++ post)))))) := by
    simp [wholeB, headB]
  obtain ⟨A, hA, wA⟩ : ∃ A : List UInt8, A.length = 17 ∧ wholeB e s data ++ post = A ++ (data ++ (le4 (sumB data) ++ post)) := ⟨167 :: (le4 e ++ (le4 s ++ (le4 data.length ++ le4 (sumB ((headB e s data.length).drop 1))))), by simp [le4], by rw [w]; simp⟩
  have hd1 : (headB e s data.length).drop 1 = le4 e ++ le4 s ++ le4 data.length := by simp [headB]
  have g0 : (pre ++ wholeB e s data ++ post).getD pre.length 0 = 167 := by
    have := d0 0
    have h2 : (pre ++ wholeB e s data ++ post).getD pre.length 0 = ((pre ++ wholeB e s data ++ post).drop pre.length).getD 0 0 := by
      simp only [List.getD, List.getElem?_drop, Nat.add_zero]
    rw [h2]; rw [Nat.add_zero] at this; rw [this, w]; rfl
  have s1 : sumB ((headB e s data.length).drop 1) < 4294967296 := sumB_lt _
  have s2 := sumB_lt data
  have f13 : fourL ((pre ++ wholeB e s data ++ post).drop (pre.length + 13)) = sumB ((headB e s data.length).drop 1) := by
    rw [d0, w]
    have : (167 :: (le4 e ++ (le4 s ++ (le4 data.length ++ (le4 (sumB ((headB e s data.length).drop 1)) ++ (data ++ (le4 (sumB data) ++ post))))))).drop 13 = le4 (sumB ((headB e s data.length).drop 1)) ++ (data ++ (le4 (sumB data) ++ post)) := by simp [le4]
    rw [this]; exact fourL_le4 _ s1 _
  have f9 : fourL ((pre ++ wholeB e s data ++ post).drop (pre.length + 9)) = data.length := by
    rw [d0, w]
    have : (167 :: (le4 e ++ (le4 s ++ (le4 data.length ++ (le4 (sumB ((headB e s data.length).drop 1)) ++ (data ++ (le4 (sumB data) ++ post))))))).drop 9 = le4 data.length ++ (le4 (sumB ((headB e s data.length).drop 1)) ++ (data ++ (le4 (sumB data) ++ post))) := by simp [le4]
    rw [this]; exact fourL_le4 _ hd _
  have f1 : fourL ((pre ++ wholeB e s data ++ post).drop (pre.length + 1)) = e := by
    rw [d0, w]
    exact fourL_le4 _ he _
  have f5 : fourL ((pre ++ wholeB e s data ++ post).drop (pre.length + 5)) = s := by
    rw [d0, w]
    have : (167 :: (le4 e ++ (le4 s ++ (le4 data.length ++ (le4 (sumB ((headB e s data.length).drop 1)) ++ (data ++ (le4 (sumB data) ++ post))))))).drop 5 = le4 s ++ (le4 data.length ++ (le4 (sumB ((headB e s data.length).drop 1)) ++ (data ++ (le4 (sumB data) ++ post)))) := by simp [le4]
    rw [this]; exact fourL_le4 _ hs _
  have h1 : ((pre ++ wholeB e s data ++ post).take (pre.length + 13)).drop (pre.length + 1) = (headB e s data.length).drop 1 := by
    rw [t0, w, hd1]; simp [le4]
  have q1 : ((pre ++ wholeB e s data ++ post).take (pre.length + 17 + data.length)).drop (pre.length + 17) = data := by
    rw [Nat.add_assoc, t0, wA, ← hA, List.take_length_add_append, List.drop_left, List.take_left]
  have q2 : fourL ((pre ++ wholeB e s data ++ post).drop (pre.length + 17 + data.length)) = sumB data := by
    rw [Nat.add_assoc, d0, wA, ← hA, ← List.drop_drop, List.drop_left, List.drop_left]
    exact fourL_le4 _ s2 _
  unfold recA
  rw [if_neg (by omega), if_neg (by rw [g0]; simp), f13, h1, if_neg (by simp), f9, if_neg (by omega)]
  simp only [q1, q2, f1, f5, decide_true]
end Go.Proofs.Ytggdljhmbckpmaa
