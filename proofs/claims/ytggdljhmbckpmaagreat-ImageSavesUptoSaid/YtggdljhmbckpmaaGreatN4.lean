/- Decode: lists read: walks, printed by gen_get.py. -/
import Derived.Test.YtggdljhmbckpmaaGreatN2J
set_option linter.unusedVariables false
set_option linter.unusedSimpArgs false
namespace Go.Proofs.YtggdljhmbckpmaaGreat
open Go Go.RowKit
set_option maxRecDepth 100000
set_option maxHeartbeats 1600000

abbrev yH {α : Type} (l : List α) (y : Option Addr × Nat) : Value := .slice y.1 l.length y.2
def mR {α : Type} (d : Dc α) (l : List α) (k : Nat) : Dc (List α) := fun a => match iO d k a with
  | .error e => .error e
  | .ok (l', a') => .ok (l ++ l', a')
theorem jC {α : Type} (d : Dc α) (k a : Nat) : mR d [] k a = iO d k a := by
  unfold mR
  cases iO d k a <;> rfl
theorem iJ {α : Type} {d : Dc α} {l : List α} {x : α} {k a a2 : Nat} (h : d a = .ok (x, a2)) : mR d l (k + 1) a = mR d (l ++ [x]) k a2 := by
  simp only [mR, iO, h]
  cases iO d k a2 <;> simp
theorem kG {α : Type} {d : Dc α} {l : List α} {k a e : Nat} (h : d a = .error e) : mR d l (k + 1) a = .error e := by
  simp only [mR, iO, h]
theorem jF {α : Type} {d : Dc α} {l : List α} {a : Nat} : mR d l 0 a = .ok (l, a) := by
  simp [mR, iO]
theorem dN {α : Type} [Rep α] {w0 w : World} {H : List Hp} {R : List MP} {A : Option Addr} {n c : Nat} {xs : List α} (h : S w0 w H R) (hm : Sl (.slice A n c) xs ∈ R) : xs.length ≤ c ∧ c ≤ eO := by
  obtain ⟨A', c', e, h1⟩ := xC h hm
  injection e with _ _ e3
  rw [e3]; exact h1
theorem mL {w0 : World} {α : Type} [Rep α] [Unp α] [UnpL α] (hsz : Rep.size α = 4) (br : Nat) (A : Option Addr) (c : Nat) (xs : List UInt8) (hx : xs.length ≤ 250000) (f1 : FuncId) (first : List Value) [FnOk Tryz.prog f1] (m : Nat) (d : Dc α) (val : α → Unp.Y α → Value) (hval : ∀ x y, (val x y).cells = (Unp.cs x y).toArray) (hone : Rr Tryz.prog w0 f1 first br A c xs (m + 1) d val) : Rr Tryz.prog w0 136 [.pointer (some ⟨br, 0, none⟩), .func (.func f1) first.toArray #[]] br A c xs m (dY xs d) yH := by
  intro H R K KP a hma hax hm hk hp
  refine dE Tryz.func136 rfl Tryz.ntmps136 fI ?_
  repeat' (first | (apply aF) | (apply aA) | (apply aH) | (apply aD) | (refine aE rfl rfl ?_; ((first | refine aG ?_ | refine aY ?_)); refine aB ?_))
  refine lQ rfl rfl hx hax hm (fun n a1 hn h1 h2 => ?_) (fun e he => ?_)
  rotate_left
  · skip
    repeat' ((apply aM))
    exact aR (cN H R (fun w hs => hs) (hp e (by unfold dY; rw [he])))
  refine aB ?_
  repeat' (first | (apply aV) | (apply aH) | (apply aD) | (refine aE rfl rfl ?_; ((refine aG ?_)); refine aB ?_))
  refine eJ (.blk br [.slice A xs.length c, .int .i64 (a1 : Int)] 100 :: .row (.slice none 0 0) 160 4 0 [] :: H) (Cx [] ([] : List α) :: R) (fun w hs => ((hs.nilrow 160 4).perm (List.Perm.swap _ _ _)).learn (Cx [] ([] : List α)) (fun s _ => gN s)) ?_
  refine cM [4, 7, 8, 9, 10, 11, 12, 13, 14] (fun k j H2 R2 => ∃ (i a' : Nat) (v : Value) (cs : List Value) (l : List α), i + k = n ∧ j 7 = .int .i64 (i : Int) ∧ j 4 = v ∧ (∀ p ∈ R, p ∈ R2) ∧ Cx cs l ∈ R2 ∧ H2 = .blk br [.slice A xs.length c, .int .i64 (a' : Int)] 100 :: .row v 160 4 i cs :: H ∧ a1 ≤ a' ∧ a' ≤ xs.length ∧ mR d l k a' = iO d n a1) n eS ⟨0, a1, .slice none 0 0, [], [], by omega, rfl, rfl, (fun _ h => List.mem_cons_of_mem _ h), List.mem_cons_self, rfl, Nat.le_refl _, by omega, jC d n a1⟩ ?_
  rintro k j' H2 R2 ⟨i, a', v, cs, l, hik, h7, h4, hR2, hcx, hH2, haa, ha', hacc⟩
  subst hH2
  have hmx := hR2 _ hm
  refine dD (by simp only [eF, List.foldl_cons, List.foldl_nil, List.set_cons_succ, List.set_cons_zero, h7, h4]; rfl) ?_
  rcases Nat.lt_or_ge i n with hlt | hge
  · obtain ⟨k', rfl⟩ : ∃ k', k = k' + 1 := ⟨k - 1, by omega⟩
    repeat' (first | (apply aF) | (apply aA) | (apply aV) | (apply bF) | (apply aK; exact rfl) | (apply aH) | (apply aD) | (apply aU; exact rfl; ((refine bQ rfl rfl (fun h => ?_) (fun h => ?_))) <;> (first | (exfalso; omega) | refine aB ?_)) | (refine aE rfl rfl ?_; ((refine aG ?_)); refine aB ?_))
    refine pK (L1 := first) (L2 := []) rfl rfl dB hone aO ha' hmx (fun x a2 y hd h3 h4 hok => ?_) (fun e he => ?_)
    rotate_left
    · skip
      repeat' (first | (apply aM) | (apply cI))
      exact aR (cN H R (fun w hs => hs.weaken eB hR2) (hp e (by unfold dY; rw [hn]; simp only; rw [← hacc]; exact kG he)))
    refine aB ?_
    refine bJ rfl rfl ?_
    refine fR (cs := Unp.cs x y) cQ (hval x y) (by rw [UnpL.len, hsz]) (fun b => ?_)
    refine aB ?_
    refine bJ rfl rfl ?_
    refine dF 2 0 (news := Unp.cs x y) rfl rfl rfl rfl cQ (by rw [UnpL.len, hsz]) (UnpL.one x y) aO aO (fun v' => ?_)
    refine aB ?_
    refine iY (Cx (cs ++ Unp.cs x y) (l ++ [x])) (fun s hR => eZ (hR (Cx cs l) (List.mem_append_right _ hcx)) (Unp.re hok (fun p hp => hR p (List.mem_append_left _ hp)))) ?_
    refine eU (.blk br [.slice A xs.length c, .int .i64 (a2 : Int)] 100 :: .row v' 160 4 (i + 1) (cs ++ Unp.cs x y) :: H) (Cx (cs ++ Unp.cs x y) (l ++ [x]) :: R) (fun w hs => hs.weaken fE (bT List.mem_cons_self (fun p hp => List.mem_cons_of_mem _ (List.mem_append_right _ (hR2 p hp))))) ?_
    repeat' (first | (apply aA) | (apply aH) | (apply aD) | (apply bU) | (apply aU; exact rfl; ((refine bM rfl rfl aO aO ?_)); refine aB ?_) | (refine aE rfl rfl ?_; ((first | refine aG ?_ | refine aY ?_)); refine aB ?_))
    exact cJ k' _ (Cx (cs ++ Unp.cs x y) (l ++ [x]) :: R) aO eS ⟨i + 1, a2, v', cs ++ Unp.cs x y, l ++ [x], by omega, rfl, rfl, (fun _ h => List.mem_cons_of_mem _ h), List.mem_cons_self, rfl, by omega, h4, by rw [← hacc]; exact (iJ hd).symm⟩ (fun w hs => hs)
  · obtain rfl : k = 0 := by omega
    repeat' (first | (apply aF) | (apply aA) | (apply bP) | (apply cG) | (apply aJ; exact rfl) | (apply aH) | (apply aD) | (apply aW) | (apply aS) | (apply aU; exact rfl; ((refine bQ rfl rfl (fun h => ?_) (fun h => ?_))) <;> (first | (exfalso; omega) | refine aB ?_)) | (refine aE rfl rfl ?_; ((first | refine aG ?_ | refine aY ?_)); refine aB ?_))
    refine eH 1 rfl hsz cQ hcx (fun A' c' hv => ?_)
    refine fL (fun w hs => dN hs List.mem_cons_self) (fun hb => ?_)
    refine aZ (.inl rfl) (dP rfl (bR (v := .slice A' l.length c') (by rw [← hv]; rfl))) (fG _ (Sl (.slice A' l.length c') l :: R) (fun w hs => hs.weaken (List.Sublist.refl _) (bT List.mem_cons_self (fun p hp => List.mem_cons_of_mem _ (hR2 p hp)))) ?_)
    exact hk l a' (A', c') (by unfold dY; rw [hn]; simp only; rw [← hacc, jF]) aO ha' hb
theorem get123_r {w0 : World} {α : Type} [Rep α] [Unp α] [UnpL α] (hsz : Rep.size α = 2) (br : Nat) (A : Option Addr) (c : Nat) (xs : List UInt8) (hx : xs.length ≤ 250000) (f1 : FuncId) (first : List Value) [FnOk Tryz.prog f1] (m : Nat) (d : Dc α) (val : α → Unp.Y α → Value) (hval : ∀ x y, (val x y).cells = (Unp.cs x y).toArray) (hone : Rr Tryz.prog w0 f1 first br A c xs (m + 1) d val) : Rr Tryz.prog w0 153 [.pointer (some ⟨br, 0, none⟩), .func (.func f1) first.toArray #[]] br A c xs m (dY xs d) yH := by
  intro H R K KP a hma hax hm hk hp
  refine dE Tryz.func153 rfl Tryz.ntmps153 fI ?_
  repeat' (first | (apply aF) | (apply aA) | (apply aH) | (apply aD) | (refine aE rfl rfl ?_; ((first | refine aG ?_ | refine aY ?_)); refine aB ?_))
  refine lQ rfl rfl hx hax hm (fun n a1 hn h1 h2 => ?_) (fun e he => ?_)
  rotate_left
  · skip
    repeat' ((apply aM))
    exact aR (cN H R (fun w hs => hs) (hp e (by unfold dY; rw [he])))
  refine aB ?_
  repeat' (first | (apply aV) | (apply aH) | (apply aD) | (refine aE rfl rfl ?_; ((refine aG ?_)); refine aB ?_))
  refine eJ (.blk br [.slice A xs.length c, .int .i64 (a1 : Int)] 100 :: .row (.slice none 0 0) 158 2 0 [] :: H) (Cx [] ([] : List α) :: R) (fun w hs => ((hs.nilrow 158 2).perm (List.Perm.swap _ _ _)).learn (Cx [] ([] : List α)) (fun s _ => gN s)) ?_
  refine cM [4, 7, 8, 9, 10, 11, 12, 13, 14] (fun k j H2 R2 => ∃ (i a' : Nat) (v : Value) (cs : List Value) (l : List α), i + k = n ∧ j 7 = .int .i64 (i : Int) ∧ j 4 = v ∧ (∀ p ∈ R, p ∈ R2) ∧ Cx cs l ∈ R2 ∧ H2 = .blk br [.slice A xs.length c, .int .i64 (a' : Int)] 100 :: .row v 158 2 i cs :: H ∧ a1 ≤ a' ∧ a' ≤ xs.length ∧ mR d l k a' = iO d n a1) n eS ⟨0, a1, .slice none 0 0, [], [], by omega, rfl, rfl, (fun _ h => List.mem_cons_of_mem _ h), List.mem_cons_self, rfl, Nat.le_refl _, by omega, jC d n a1⟩ ?_
  rintro k j' H2 R2 ⟨i, a', v, cs, l, hik, h7, h4, hR2, hcx, hH2, haa, ha', hacc⟩
  subst hH2
  have hmx := hR2 _ hm
  refine dD (by simp only [eF, List.foldl_cons, List.foldl_nil, List.set_cons_succ, List.set_cons_zero, h7, h4]; rfl) ?_
  rcases Nat.lt_or_ge i n with hlt | hge
  · obtain ⟨k', rfl⟩ : ∃ k', k = k' + 1 := ⟨k - 1, by omega⟩
    repeat' (first | (apply aF) | (apply aA) | (apply aV) | (apply bF) | (apply aK; exact rfl) | (apply aH) | (apply aD) | (apply aU; exact rfl; ((refine bQ rfl rfl (fun h => ?_) (fun h => ?_))) <;> (first | (exfalso; omega) | refine aB ?_)) | (refine aE rfl rfl ?_; ((refine aG ?_)); refine aB ?_))
    refine pK (L1 := first) (L2 := []) rfl rfl dB hone aO ha' hmx (fun x a2 y hd h3 h4 hok => ?_) (fun e he => ?_)
    rotate_left
    · skip
      repeat' (first | (apply aM) | (apply cI))
      exact aR (cN H R (fun w hs => hs.weaken eB hR2) (hp e (by unfold dY; rw [hn]; simp only; rw [← hacc]; exact kG he)))
    refine aB ?_
    refine bJ rfl rfl ?_
    refine fR (cs := Unp.cs x y) cQ (hval x y) (by rw [UnpL.len, hsz]) (fun b => ?_)
    refine aB ?_
    refine bJ rfl rfl ?_
    refine dF 2 0 (news := Unp.cs x y) rfl rfl rfl rfl cQ (by rw [UnpL.len, hsz]) (UnpL.one x y) aO aO (fun v' => ?_)
    refine aB ?_
    refine iY (Cx (cs ++ Unp.cs x y) (l ++ [x])) (fun s hR => eZ (hR (Cx cs l) (List.mem_append_right _ hcx)) (Unp.re hok (fun p hp => hR p (List.mem_append_left _ hp)))) ?_
    refine eU (.blk br [.slice A xs.length c, .int .i64 (a2 : Int)] 100 :: .row v' 158 2 (i + 1) (cs ++ Unp.cs x y) :: H) (Cx (cs ++ Unp.cs x y) (l ++ [x]) :: R) (fun w hs => hs.weaken fE (bT List.mem_cons_self (fun p hp => List.mem_cons_of_mem _ (List.mem_append_right _ (hR2 p hp))))) ?_
    repeat' (first | (apply aA) | (apply aH) | (apply aD) | (apply bU) | (apply aU; exact rfl; ((refine bM rfl rfl aO aO ?_)); refine aB ?_) | (refine aE rfl rfl ?_; ((first | refine aG ?_ | refine aY ?_)); refine aB ?_))
    exact cJ k' _ (Cx (cs ++ Unp.cs x y) (l ++ [x]) :: R) aO eS ⟨i + 1, a2, v', cs ++ Unp.cs x y, l ++ [x], by omega, rfl, rfl, (fun _ h => List.mem_cons_of_mem _ h), List.mem_cons_self, rfl, by omega, h4, by rw [← hacc]; exact (iJ hd).symm⟩ (fun w hs => hs)
  · obtain rfl : k = 0 := by omega
    repeat' (first | (apply aF) | (apply aA) | (apply bP) | (apply cG) | (apply aJ; exact rfl) | (apply aH) | (apply aD) | (apply aW) | (apply aS) | (apply aU; exact rfl; ((refine bQ rfl rfl (fun h => ?_) (fun h => ?_))) <;> (first | (exfalso; omega) | refine aB ?_)) | (refine aE rfl rfl ?_; ((first | refine aG ?_ | refine aY ?_)); refine aB ?_))
    refine eH 1 rfl hsz cQ hcx (fun A' c' hv => ?_)
    refine fL (fun w hs => dN hs List.mem_cons_self) (fun hb => ?_)
    refine aZ (.inl rfl) (dP rfl (bR (v := .slice A' l.length c') (by rw [← hv]; rfl))) (fG _ (Sl (.slice A' l.length c') l :: R) (fun w hs => hs.weaken (List.Sublist.refl _) (bT List.mem_cons_self (fun p hp => List.mem_cons_of_mem _ (hR2 p hp)))) ?_)
    exact hk l a' (A', c') (by unfold dY; rw [hn]; simp only; rw [← hacc, jF]) aO ha' hb
theorem get117_r {w0 : World} {α : Type} [Rep α] [Unp α] [UnpL α] (hsz : Rep.size α = 3) (br : Nat) (A : Option Addr) (c : Nat) (xs : List UInt8) (hx : xs.length ≤ 250000) (f1 : FuncId) (first : List Value) [FnOk Tryz.prog f1] (m : Nat) (d : Dc α) (val : α → Unp.Y α → Value) (hval : ∀ x y, (val x y).cells = (Unp.cs x y).toArray) (hone : Rr Tryz.prog w0 f1 first br A c xs (m + 1) d val) : Rr Tryz.prog w0 140 [.pointer (some ⟨br, 0, none⟩), .func (.func f1) first.toArray #[]] br A c xs m (dY xs d) yH := by
  intro H R K KP a hma hax hm hk hp
  refine dE Tryz.func140 rfl Tryz.ntmps140 fI ?_
  repeat' (first | (apply aF) | (apply aA) | (apply aH) | (apply aD) | (refine aE rfl rfl ?_; ((first | refine aG ?_ | refine aY ?_)); refine aB ?_))
  refine lQ rfl rfl hx hax hm (fun n a1 hn h1 h2 => ?_) (fun e he => ?_)
  rotate_left
  · skip
    repeat' ((apply aM))
    exact aR (cN H R (fun w hs => hs) (hp e (by unfold dY; rw [he])))
  refine aB ?_
  repeat' (first | (apply aV) | (apply aH) | (apply aD) | (refine aE rfl rfl ?_; ((refine aG ?_)); refine aB ?_))
  refine eJ (.blk br [.slice A xs.length c, .int .i64 (a1 : Int)] 100 :: .row (.slice none 0 0) 207 3 0 [] :: H) (Cx [] ([] : List α) :: R) (fun w hs => ((hs.nilrow 207 3).perm (List.Perm.swap _ _ _)).learn (Cx [] ([] : List α)) (fun s _ => gN s)) ?_
  refine cM [4, 7, 8, 9, 10, 11, 12, 13, 14] (fun k j H2 R2 => ∃ (i a' : Nat) (v : Value) (cs : List Value) (l : List α), i + k = n ∧ j 7 = .int .i64 (i : Int) ∧ j 4 = v ∧ (∀ p ∈ R, p ∈ R2) ∧ Cx cs l ∈ R2 ∧ H2 = .blk br [.slice A xs.length c, .int .i64 (a' : Int)] 100 :: .row v 207 3 i cs :: H ∧ a1 ≤ a' ∧ a' ≤ xs.length ∧ mR d l k a' = iO d n a1) n eS ⟨0, a1, .slice none 0 0, [], [], by omega, rfl, rfl, (fun _ h => List.mem_cons_of_mem _ h), List.mem_cons_self, rfl, Nat.le_refl _, by omega, jC d n a1⟩ ?_
  rintro k j' H2 R2 ⟨i, a', v, cs, l, hik, h7, h4, hR2, hcx, hH2, haa, ha', hacc⟩
  subst hH2
  have hmx := hR2 _ hm
  refine dD (by simp only [eF, List.foldl_cons, List.foldl_nil, List.set_cons_succ, List.set_cons_zero, h7, h4]; rfl) ?_
  rcases Nat.lt_or_ge i n with hlt | hge
  · obtain ⟨k', rfl⟩ : ∃ k', k = k' + 1 := ⟨k - 1, by omega⟩
    repeat' (first | (apply aF) | (apply aA) | (apply aV) | (apply bF) | (apply aK; exact rfl) | (apply aH) | (apply aD) | (apply aU; exact rfl; ((refine bQ rfl rfl (fun h => ?_) (fun h => ?_))) <;> (first | (exfalso; omega) | refine aB ?_)) | (refine aE rfl rfl ?_; ((refine aG ?_)); refine aB ?_))
    refine pK (L1 := first) (L2 := []) rfl rfl dB hone aO ha' hmx (fun x a2 y hd h3 h4 hok => ?_) (fun e he => ?_)
    rotate_left
    · skip
      repeat' (first | (apply aM) | (apply cI))
      exact aR (cN H R (fun w hs => hs.weaken eB hR2) (hp e (by unfold dY; rw [hn]; simp only; rw [← hacc]; exact kG he)))
    refine aB ?_
    refine bJ rfl rfl ?_
    refine fR (cs := Unp.cs x y) cQ (hval x y) (by rw [UnpL.len, hsz]) (fun b => ?_)
    refine aB ?_
    refine bJ rfl rfl ?_
    refine dF 2 0 (news := Unp.cs x y) rfl rfl rfl rfl cQ (by rw [UnpL.len, hsz]) (UnpL.one x y) aO aO (fun v' => ?_)
    refine aB ?_
    refine iY (Cx (cs ++ Unp.cs x y) (l ++ [x])) (fun s hR => eZ (hR (Cx cs l) (List.mem_append_right _ hcx)) (Unp.re hok (fun p hp => hR p (List.mem_append_left _ hp)))) ?_
    refine eU (.blk br [.slice A xs.length c, .int .i64 (a2 : Int)] 100 :: .row v' 207 3 (i + 1) (cs ++ Unp.cs x y) :: H) (Cx (cs ++ Unp.cs x y) (l ++ [x]) :: R) (fun w hs => hs.weaken fE (bT List.mem_cons_self (fun p hp => List.mem_cons_of_mem _ (List.mem_append_right _ (hR2 p hp))))) ?_
    repeat' (first | (apply aA) | (apply aH) | (apply aD) | (apply bU) | (apply aU; exact rfl; ((refine bM rfl rfl aO aO ?_)); refine aB ?_) | (refine aE rfl rfl ?_; ((first | refine aG ?_ | refine aY ?_)); refine aB ?_))
    exact cJ k' _ (Cx (cs ++ Unp.cs x y) (l ++ [x]) :: R) aO eS ⟨i + 1, a2, v', cs ++ Unp.cs x y, l ++ [x], by omega, rfl, rfl, (fun _ h => List.mem_cons_of_mem _ h), List.mem_cons_self, rfl, by omega, h4, by rw [← hacc]; exact (iJ hd).symm⟩ (fun w hs => hs)
  · obtain rfl : k = 0 := by omega
    repeat' (first | (apply aF) | (apply aA) | (apply bP) | (apply cG) | (apply aJ; exact rfl) | (apply aH) | (apply aD) | (apply aW) | (apply aS) | (apply aU; exact rfl; ((refine bQ rfl rfl (fun h => ?_) (fun h => ?_))) <;> (first | (exfalso; omega) | refine aB ?_)) | (refine aE rfl rfl ?_; ((first | refine aG ?_ | refine aY ?_)); refine aB ?_))
    refine eH 1 rfl hsz cQ hcx (fun A' c' hv => ?_)
    refine fL (fun w hs => dN hs List.mem_cons_self) (fun hb => ?_)
    refine aZ (.inl rfl) (dP rfl (bR (v := .slice A' l.length c') (by rw [← hv]; rfl))) (fG _ (Sl (.slice A' l.length c') l :: R) (fun w hs => hs.weaken (List.Sublist.refl _) (bT List.mem_cons_self (fun p hp => List.mem_cons_of_mem _ (hR2 p hp)))) ?_)
    exact hk l a' (A', c') (by unfold dY; rw [hn]; simp only; rw [← hacc, jF]) aO ha' hb
theorem get111_r {w0 : World} {α : Type} [Rep α] [Unp α] [UnpL α] (hsz : Rep.size α = 1) (br : Nat) (A : Option Addr) (c : Nat) (xs : List UInt8) (hx : xs.length ≤ 250000) (f1 : FuncId) (first : List Value) [FnOk Tryz.prog f1] (m : Nat) (d : Dc α) (val : α → Unp.Y α → Value) (hval : ∀ x y, (val x y).cells = (Unp.cs x y).toArray) (hone : Rr Tryz.prog w0 f1 first br A c xs (m + 1) d val) : Rr Tryz.prog w0 134 [.pointer (some ⟨br, 0, none⟩), .func (.func f1) first.toArray #[]] br A c xs m (dY xs d) yH := by
  intro H R K KP a hma hax hm hk hp
  refine dE Tryz.func134 rfl Tryz.ntmps134 fI ?_
  repeat' (first | (apply aF) | (apply aA) | (apply aH) | (apply aD) | (refine aE rfl rfl ?_; ((first | refine aG ?_ | refine aY ?_)); refine aB ?_))
  refine lQ rfl rfl hx hax hm (fun n a1 hn h1 h2 => ?_) (fun e he => ?_)
  rotate_left
  · skip
    repeat' ((apply aM))
    exact aR (cN H R (fun w hs => hs) (hp e (by unfold dY; rw [he])))
  refine aB ?_
  repeat' (first | (apply aV) | (apply aH) | (apply aD) | (refine aE rfl rfl ?_; ((refine aG ?_)); refine aB ?_))
  refine eJ (.blk br [.slice A xs.length c, .int .i64 (a1 : Int)] 100 :: .row (.slice none 0 0) 3 1 0 [] :: H) (Cx [] ([] : List α) :: R) (fun w hs => ((hs.nilrow 3 1).perm (List.Perm.swap _ _ _)).learn (Cx [] ([] : List α)) (fun s _ => gN s)) ?_
  refine cM [4, 7, 8, 9, 10, 11, 12, 13, 14] (fun k j H2 R2 => ∃ (i a' : Nat) (v : Value) (cs : List Value) (l : List α), i + k = n ∧ j 7 = .int .i64 (i : Int) ∧ j 4 = v ∧ (∀ p ∈ R, p ∈ R2) ∧ Cx cs l ∈ R2 ∧ H2 = .blk br [.slice A xs.length c, .int .i64 (a' : Int)] 100 :: .row v 3 1 i cs :: H ∧ a1 ≤ a' ∧ a' ≤ xs.length ∧ mR d l k a' = iO d n a1) n eS ⟨0, a1, .slice none 0 0, [], [], by omega, rfl, rfl, (fun _ h => List.mem_cons_of_mem _ h), List.mem_cons_self, rfl, Nat.le_refl _, by omega, jC d n a1⟩ ?_
  rintro k j' H2 R2 ⟨i, a', v, cs, l, hik, h7, h4, hR2, hcx, hH2, haa, ha', hacc⟩
  subst hH2
  have hmx := hR2 _ hm
  refine dD (by simp only [eF, List.foldl_cons, List.foldl_nil, List.set_cons_succ, List.set_cons_zero, h7, h4]; rfl) ?_
  rcases Nat.lt_or_ge i n with hlt | hge
  · obtain ⟨k', rfl⟩ : ∃ k', k = k' + 1 := ⟨k - 1, by omega⟩
    repeat' (first | (apply aF) | (apply aA) | (apply aV) | (apply bF) | (apply aK; exact rfl) | (apply aH) | (apply aD) | (apply aU; exact rfl; ((refine bQ rfl rfl (fun h => ?_) (fun h => ?_))) <;> (first | (exfalso; omega) | refine aB ?_)) | (refine aE rfl rfl ?_; ((refine aG ?_)); refine aB ?_))
    refine pK (L1 := first) (L2 := []) rfl rfl dB hone aO ha' hmx (fun x a2 y hd h3 h4 hok => ?_) (fun e he => ?_)
    rotate_left
    · skip
      repeat' (first | (apply aM) | (apply cI))
      exact aR (cN H R (fun w hs => hs.weaken eB hR2) (hp e (by unfold dY; rw [hn]; simp only; rw [← hacc]; exact kG he)))
    refine aB ?_
    refine bJ rfl rfl ?_
    refine fR (cs := Unp.cs x y) cQ (hval x y) (by rw [UnpL.len, hsz]) (fun b => ?_)
    refine aB ?_
    refine bJ rfl rfl ?_
    refine dF 2 0 (news := Unp.cs x y) rfl rfl rfl rfl cQ (by rw [UnpL.len, hsz]) (UnpL.one x y) aO aO (fun v' => ?_)
    refine aB ?_
    refine iY (Cx (cs ++ Unp.cs x y) (l ++ [x])) (fun s hR => eZ (hR (Cx cs l) (List.mem_append_right _ hcx)) (Unp.re hok (fun p hp => hR p (List.mem_append_left _ hp)))) ?_
    refine eU (.blk br [.slice A xs.length c, .int .i64 (a2 : Int)] 100 :: .row v' 3 1 (i + 1) (cs ++ Unp.cs x y) :: H) (Cx (cs ++ Unp.cs x y) (l ++ [x]) :: R) (fun w hs => hs.weaken fE (bT List.mem_cons_self (fun p hp => List.mem_cons_of_mem _ (List.mem_append_right _ (hR2 p hp))))) ?_
    repeat' (first | (apply aA) | (apply aH) | (apply aD) | (apply bU) | (apply aU; exact rfl; ((refine bM rfl rfl aO aO ?_)); refine aB ?_) | (refine aE rfl rfl ?_; ((first | refine aG ?_ | refine aY ?_)); refine aB ?_))
    exact cJ k' _ (Cx (cs ++ Unp.cs x y) (l ++ [x]) :: R) aO eS ⟨i + 1, a2, v', cs ++ Unp.cs x y, l ++ [x], by omega, rfl, rfl, (fun _ h => List.mem_cons_of_mem _ h), List.mem_cons_self, rfl, by omega, h4, by rw [← hacc]; exact (iJ hd).symm⟩ (fun w hs => hs)
  · obtain rfl : k = 0 := by omega
    repeat' (first | (apply aF) | (apply aA) | (apply bP) | (apply cG) | (apply aJ; exact rfl) | (apply aH) | (apply aD) | (apply aW) | (apply aS) | (apply aU; exact rfl; ((refine bQ rfl rfl (fun h => ?_) (fun h => ?_))) <;> (first | (exfalso; omega) | refine aB ?_)) | (refine aE rfl rfl ?_; ((first | refine aG ?_ | refine aY ?_)); refine aB ?_))
    refine eH 1 rfl hsz cQ hcx (fun A' c' hv => ?_)
    refine fL (fun w hs => dN hs List.mem_cons_self) (fun hb => ?_)
    refine aZ (.inl rfl) (dP rfl (bR (v := .slice A' l.length c') (by rw [← hv]; rfl))) (fG _ (Sl (.slice A' l.length c') l :: R) (fun w hs => hs.weaken (List.Sublist.refl _) (bT List.mem_cons_self (fun p hp => List.mem_cons_of_mem _ (hR2 p hp)))) ?_)
    exact hk l a' (A', c') (by unfold dY; rw [hn]; simp only; rw [← hacc, jF]) aO ha' hb
theorem get83_r {w0 : World} {α : Type} [Rep α] [Unp α] [UnpL α] (hsz : Rep.size α = 5) (br : Nat) (A : Option Addr) (c : Nat) (xs : List UInt8) (hx : xs.length ≤ 250000) (f1 : FuncId) (first : List Value) [FnOk Tryz.prog f1] (m : Nat) (d : Dc α) (val : α → Unp.Y α → Value) (hval : ∀ x y, (val x y).cells = (Unp.cs x y).toArray) (hone : Rr Tryz.prog w0 f1 first br A c xs (m + 1) d val) : Rr Tryz.prog w0 90 [.pointer (some ⟨br, 0, none⟩), .func (.func f1) first.toArray #[]] br A c xs m (dY xs d) yH := by
  intro H R K KP a hma hax hm hk hp
  refine dE Tryz.func90 rfl Tryz.ntmps90 fI ?_
  repeat' (first | (apply aF) | (apply aA) | (apply aH) | (apply aD) | (refine aE rfl rfl ?_; ((first | refine aG ?_ | refine aY ?_)); refine aB ?_))
  refine lQ rfl rfl hx hax hm (fun n a1 hn h1 h2 => ?_) (fun e he => ?_)
  rotate_left
  · skip
    repeat' ((apply aM))
    exact aR (cN H R (fun w hs => hs) (hp e (by unfold dY; rw [he])))
  refine aB ?_
  repeat' (first | (apply aV) | (apply aH) | (apply aD) | (refine aE rfl rfl ?_; ((refine aG ?_)); refine aB ?_))
  refine eJ (.blk br [.slice A xs.length c, .int .i64 (a1 : Int)] 100 :: .row (.slice none 0 0) 143 5 0 [] :: H) (Cx [] ([] : List α) :: R) (fun w hs => ((hs.nilrow 143 5).perm (List.Perm.swap _ _ _)).learn (Cx [] ([] : List α)) (fun s _ => gN s)) ?_
  refine cM [4, 7, 8, 9, 10, 11, 12, 13, 14] (fun k j H2 R2 => ∃ (i a' : Nat) (v : Value) (cs : List Value) (l : List α), i + k = n ∧ j 7 = .int .i64 (i : Int) ∧ j 4 = v ∧ (∀ p ∈ R, p ∈ R2) ∧ Cx cs l ∈ R2 ∧ H2 = .blk br [.slice A xs.length c, .int .i64 (a' : Int)] 100 :: .row v 143 5 i cs :: H ∧ a1 ≤ a' ∧ a' ≤ xs.length ∧ mR d l k a' = iO d n a1) n eS ⟨0, a1, .slice none 0 0, [], [], by omega, rfl, rfl, (fun _ h => List.mem_cons_of_mem _ h), List.mem_cons_self, rfl, Nat.le_refl _, by omega, jC d n a1⟩ ?_
  rintro k j' H2 R2 ⟨i, a', v, cs, l, hik, h7, h4, hR2, hcx, hH2, haa, ha', hacc⟩
  subst hH2
  have hmx := hR2 _ hm
  refine dD (by simp only [eF, List.foldl_cons, List.foldl_nil, List.set_cons_succ, List.set_cons_zero, h7, h4]; rfl) ?_
  rcases Nat.lt_or_ge i n with hlt | hge
  · obtain ⟨k', rfl⟩ : ∃ k', k = k' + 1 := ⟨k - 1, by omega⟩
    repeat' (first | (apply aF) | (apply aA) | (apply aV) | (apply bF) | (apply aK; exact rfl) | (apply aH) | (apply aD) | (apply aU; exact rfl; ((refine bQ rfl rfl (fun h => ?_) (fun h => ?_))) <;> (first | (exfalso; omega) | refine aB ?_)) | (refine aE rfl rfl ?_; ((refine aG ?_)); refine aB ?_))
    refine pK (L1 := first) (L2 := []) rfl rfl dB hone aO ha' hmx (fun x a2 y hd h3 h4 hok => ?_) (fun e he => ?_)
    rotate_left
    · skip
      repeat' (first | (apply aM) | (apply cI))
      exact aR (cN H R (fun w hs => hs.weaken eB hR2) (hp e (by unfold dY; rw [hn]; simp only; rw [← hacc]; exact kG he)))
    refine aB ?_
    refine bJ rfl rfl ?_
    refine fR (cs := Unp.cs x y) cQ (hval x y) (by rw [UnpL.len, hsz]) (fun b => ?_)
    refine aB ?_
    refine bJ rfl rfl ?_
    refine dF 2 0 (news := Unp.cs x y) rfl rfl rfl rfl cQ (by rw [UnpL.len, hsz]) (UnpL.one x y) aO aO (fun v' => ?_)
    refine aB ?_
    refine iY (Cx (cs ++ Unp.cs x y) (l ++ [x])) (fun s hR => eZ (hR (Cx cs l) (List.mem_append_right _ hcx)) (Unp.re hok (fun p hp => hR p (List.mem_append_left _ hp)))) ?_
    refine eU (.blk br [.slice A xs.length c, .int .i64 (a2 : Int)] 100 :: .row v' 143 5 (i + 1) (cs ++ Unp.cs x y) :: H) (Cx (cs ++ Unp.cs x y) (l ++ [x]) :: R) (fun w hs => hs.weaken fE (bT List.mem_cons_self (fun p hp => List.mem_cons_of_mem _ (List.mem_append_right _ (hR2 p hp))))) ?_
    repeat' (first | (apply aA) | (apply aH) | (apply aD) | (apply bU) | (apply aU; exact rfl; ((refine bM rfl rfl aO aO ?_)); refine aB ?_) | (refine aE rfl rfl ?_; ((first | refine aG ?_ | refine aY ?_)); refine aB ?_))
    exact cJ k' _ (Cx (cs ++ Unp.cs x y) (l ++ [x]) :: R) aO eS ⟨i + 1, a2, v', cs ++ Unp.cs x y, l ++ [x], by omega, rfl, rfl, (fun _ h => List.mem_cons_of_mem _ h), List.mem_cons_self, rfl, by omega, h4, by rw [← hacc]; exact (iJ hd).symm⟩ (fun w hs => hs)
  · obtain rfl : k = 0 := by omega
    repeat' (first | (apply aF) | (apply aA) | (apply bP) | (apply cG) | (apply aJ; exact rfl) | (apply aH) | (apply aD) | (apply aW) | (apply aS) | (apply aU; exact rfl; ((refine bQ rfl rfl (fun h => ?_) (fun h => ?_))) <;> (first | (exfalso; omega) | refine aB ?_)) | (refine aE rfl rfl ?_; ((first | refine aG ?_ | refine aY ?_)); refine aB ?_))
    refine eH 1 rfl hsz cQ hcx (fun A' c' hv => ?_)
    refine fL (fun w hs => dN hs List.mem_cons_self) (fun hb => ?_)
    refine aZ (.inl rfl) (dP rfl (bR (v := .slice A' l.length c') (by rw [← hv]; rfl))) (fG _ (Sl (.slice A' l.length c') l :: R) (fun w hs => hs.weaken (List.Sublist.refl _) (bT List.mem_cons_self (fun p hp => List.mem_cons_of_mem _ (hR2 p hp)))) ?_)
    exact hk l a' (A', c') (by unfold dY; rw [hn]; simp only; rw [← hacc, jF]) aO ha' hb
end Go.Proofs.YtggdljhmbckpmaaGreat
