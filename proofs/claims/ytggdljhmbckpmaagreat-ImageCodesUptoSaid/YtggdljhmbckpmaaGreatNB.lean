/- Decode: lists read: walks, printed by gen_get.py. Decode: lists read: walks, printed by gen_get.py. Decode: the calls of its readers, by kinds of what they read; lists of numbers: walk. -/
import Derived.Test.YtggdljhmbckpmaaGreatNA
set_option linter.unusedVariables false
set_option linter.unusedSimpArgs false
namespace Go.Proofs.YtggdljhmbckpmaaGreat
open Go Go.RowKit
set_option maxRecDepth 100000
set_option maxHeartbeats 1600000

abbrev vN {α : Type} (l : List α) (y : Option Addr × Nat) : Value := .slice y.1 l.length y.2
def kV {α : Type} (d : Dc α) (l : List α) (k : Nat) : Dc (List α) := fun a => match gO d k a with
  | .error e => .error e
  | .ok (l', a') => .ok (l ++ l', a')
theorem hY {α : Type} (d : Dc α) (k a : Nat) : kV d [] k a = gO d k a := by
  unfold kV
  cases gO d k a <;> rfl
theorem gH {α : Type} {d : Dc α} {l : List α} {x : α} {k a a2 : Nat} (h : d a = .ok (x, a2)) : kV d l (k + 1) a = kV d (l ++ [x]) k a2 := by
  simp only [kV, gO, h]
  cases gO d k a2 <;> simp
theorem jF {α : Type} {d : Dc α} {l : List α} {k a e : Nat} (h : d a = .error e) : kV d l (k + 1) a = .error e := by
  simp only [kV, gO, h]
theorem iB {α : Type} {d : Dc α} {l : List α} {a : Nat} : kV d l 0 a = .ok (l, a) := by
  simp [kV, gO]
theorem dC {α : Type} [Rep α] {w0 w : World} {H : List Hp} {R : List MP} {A : Option Addr} {n c : Nat} {xs : List α} (h : S w0 w H R) (hm : Sl (.slice A n c) xs ∈ R) : xs.length ≤ c ∧ c ≤ dY := by
  obtain ⟨A', c', e, h1⟩ := uI h hm
  injection e with _ _ e3
  rw [e3]; exact h1
theorem kY {w0 : World} {α : Type} [Rep α] [Unp α] [UnpL α] (hsz : Rep.size α = 4) (br : Nat) (A : Option Addr) (c : Nat) (xs : List UInt8) (hx : xs.length ≤ 250000) (f1 : FuncId) (first : List Value) [FnOk Tryz.prog f1] (m : Nat) (d : Dc α) (val : α → Unp.Y α → Value) (hval : ∀ x y, (val x y).cells = (Unp.cs x y).toArray) (hone : Rr Tryz.prog w0 f1 first br A c xs (m + 1) d val) : Rr Tryz.prog w0 136 [.pointer (some ⟨br, 0, none⟩), .func (.func f1) first.toArray #[]] br A c xs m (dK xs d) vN := by
  intro H R K KP a hma hax hm hk hp
  refine cP Tryz.func136 rfl Tryz.ntmps136 eZ ?_
  repeat' (first | (apply aF) | (apply aA) | (apply aG) | (apply aD) | (refine aE rfl rfl ?_; ((first | refine aH ?_ | refine aX ?_)); refine aB ?_))
  refine kB rfl rfl hx hax hm (fun n a1 hn h1 h2 => ?_) (fun e he => ?_)
  rotate_left
  · skip
    repeat' ((apply aL))
    exact aN (cH H R (fun w hs => hs) (hp e (by unfold dK; rw [he])))
  refine aB ?_
  repeat' (first | (apply aT) | (apply aG) | (apply aD) | (refine aE rfl rfl ?_; ((refine aH ?_)); refine aB ?_))
  refine dT (.blk br [.slice A xs.length c, .int .i64 (a1 : Int)] 100 :: .row (.slice none 0 0) 160 4 0 [] :: H) (Cx [] ([] : List α) :: R) (fun w hs => ((hs.nilrow 160 4).perm (List.Perm.swap _ _ _)).learn (Cx [] ([] : List α)) (fun s _ => fT s)) ?_
  refine cK [4, 7, 8, 9, 10, 11, 12, 13, 14] (fun k j H2 R2 => ∃ (i a' : Nat) (v : Value) (cs : List Value) (l : List α), i + k = n ∧ j 7 = .int .i64 (i : Int) ∧ j 4 = v ∧ (∀ p ∈ R, p ∈ R2) ∧ Cx cs l ∈ R2 ∧ H2 = .blk br [.slice A xs.length c, .int .i64 (a' : Int)] 100 :: .row v 160 4 i cs :: H ∧ a1 ≤ a' ∧ a' ≤ xs.length ∧ kV d l k a' = gO d n a1) n eE ⟨0, a1, .slice none 0 0, [], [], by omega, rfl, rfl, (fun _ h => List.mem_cons_of_mem _ h), List.mem_cons_self, rfl, Nat.le_refl _, by omega, hY d n a1⟩ ?_
  rintro k j' H2 R2 ⟨i, a', v, cs, l, hik, h7, h4, hR2, hcx, hH2, haa, ha', hacc⟩
  subst hH2
  have hmx := hR2 _ hm
  refine cQ (by simp only [dX, List.foldl_cons, List.foldl_nil, List.set_cons_succ, List.set_cons_zero, h7, h4]; rfl) ?_
  rcases Nat.lt_or_ge i n with hlt | hge
  · obtain ⟨k', rfl⟩ : ∃ k', k = k' + 1 := ⟨k - 1, by omega⟩
    repeat' (first | (apply aF) | (apply aA) | (apply aT) | (apply bE) | (apply aK; exact rfl) | (apply aG) | (apply aD) | (apply aU; exact rfl; ((refine bM rfl rfl (fun h => ?_) (fun h => ?_))) <;> (first | (exfalso; omega) | refine aB ?_)) | (refine aE rfl rfl ?_; ((refine aH ?_)); refine aB ?_))
    refine nQ (L1 := first) (L2 := []) rfl rfl (by simp) hone (by omega) ha' hmx (fun x a2 y hd h3 h4 hok => ?_) (fun e he => ?_)
    rotate_left
    · skip
      repeat' (first | (apply aL) | (apply bY))
      exact aN (cH H R (fun w hs => hs.weaken bU hR2) (hp e (by unfold dK; rw [hn]; simp only; rw [← hacc]; exact jF he)))
    refine aB ?_
    refine bG rfl rfl ?_
    refine eW (cs := Unp.cs x y) (by decide) (hval x y) (by rw [UnpL.len, hsz]) (fun b => ?_)
    refine aB ?_
    refine bG rfl rfl ?_
    refine cY 2 0 (news := Unp.cs x y) rfl rfl rfl rfl (by decide) (by rw [UnpL.len, hsz]) (UnpL.one x y) (by omega) (by omega) (fun v' => ?_)
    refine aB ?_
    refine iG (Cx (cs ++ Unp.cs x y) (l ++ [x])) (fun s hR => eN (hR (Cx cs l) (List.mem_append_right _ hcx)) (Unp.re hok (fun p hp => hR p (List.mem_append_left _ hp)))) ?_
    refine eF (.blk br [.slice A xs.length c, .int .i64 (a2 : Int)] 100 :: .row v' 160 4 (i + 1) (cs ++ Unp.cs x y) :: H) (Cx (cs ++ Unp.cs x y) (l ++ [x]) :: R) (fun w hs => hs.weaken (List.Sublist.cons _ (List.Sublist.refl _)) (bL List.mem_cons_self (fun p hp => List.mem_cons_of_mem _ (List.mem_append_right _ (hR2 p hp))))) ?_
    repeat' (first | (apply aA) | (apply aG) | (apply aD) | (apply bP) | (apply aU; exact rfl; ((refine bI rfl rfl (by omega) (by omega) ?_)); refine aB ?_) | (refine aE rfl rfl ?_; ((first | refine aH ?_ | refine aX ?_)); refine aB ?_))
    exact cE k' _ (Cx (cs ++ Unp.cs x y) (l ++ [x]) :: R) (by omega) eE ⟨i + 1, a2, v', cs ++ Unp.cs x y, l ++ [x], by omega, rfl, rfl, (fun _ h => List.mem_cons_of_mem _ h), List.mem_cons_self, rfl, by omega, h4, by rw [← hacc]; exact (gH hd).symm⟩ (fun w hs => hs)
  · obtain rfl : k = 0 := by omega
    repeat' (first | (apply aF) | (apply aA) | (apply bN) | (apply bV) | (apply aI; exact rfl) | (apply aG) | (apply aD) | (apply aS) | (apply aR) | (apply aU; exact rfl; ((refine bM rfl rfl (fun h => ?_) (fun h => ?_))) <;> (first | (exfalso; omega) | refine aB ?_)) | (refine aE rfl rfl ?_; ((first | refine aH ?_ | refine aX ?_)); refine aB ?_))
    refine dW 1 rfl hsz (by decide) hcx (fun A' c' hv => ?_)
    refine eO (fun w hs => dC hs List.mem_cons_self) (fun hb => ?_)
    refine bC (.inl rfl) (dM rfl (bS (v := .slice A' l.length c') (by rw [← hv]; rfl))) (eI _ (Sl (.slice A' l.length c') l :: R) (fun w hs => hs.weaken (List.Sublist.refl _) (bL List.mem_cons_self (fun p hp => List.mem_cons_of_mem _ (hR2 p hp)))) ?_)
    exact hk l a' (A', c') (by unfold dK; rw [hn]; simp only; rw [← hacc, iB]) (by omega) ha' hb
theorem p3 {w0 : World} {α : Type} [Rep α] [Unp α] [UnpL α] (hsz : Rep.size α = 2) (br : Nat) (A : Option Addr) (c : Nat) (xs : List UInt8) (hx : xs.length ≤ 250000) (f1 : FuncId) (first : List Value) [FnOk Tryz.prog f1] (m : Nat) (d : Dc α) (val : α → Unp.Y α → Value) (hval : ∀ x y, (val x y).cells = (Unp.cs x y).toArray) (hone : Rr Tryz.prog w0 f1 first br A c xs (m + 1) d val) : Rr Tryz.prog w0 153 [.pointer (some ⟨br, 0, none⟩), .func (.func f1) first.toArray #[]] br A c xs m (dK xs d) vN := by
  intro H R K KP a hma hax hm hk hp
  refine cP Tryz.func153 rfl Tryz.ntmps153 eZ ?_
  repeat' (first | (apply aF) | (apply aA) | (apply aG) | (apply aD) | (refine aE rfl rfl ?_; ((first | refine aH ?_ | refine aX ?_)); refine aB ?_))
  refine kB rfl rfl hx hax hm (fun n a1 hn h1 h2 => ?_) (fun e he => ?_)
  rotate_left
  · skip
    repeat' ((apply aL))
    exact aN (cH H R (fun w hs => hs) (hp e (by unfold dK; rw [he])))
  refine aB ?_
  repeat' (first | (apply aT) | (apply aG) | (apply aD) | (refine aE rfl rfl ?_; ((refine aH ?_)); refine aB ?_))
  refine dT (.blk br [.slice A xs.length c, .int .i64 (a1 : Int)] 100 :: .row (.slice none 0 0) 158 2 0 [] :: H) (Cx [] ([] : List α) :: R) (fun w hs => ((hs.nilrow 158 2).perm (List.Perm.swap _ _ _)).learn (Cx [] ([] : List α)) (fun s _ => fT s)) ?_
  refine cK [4, 7, 8, 9, 10, 11, 12, 13, 14] (fun k j H2 R2 => ∃ (i a' : Nat) (v : Value) (cs : List Value) (l : List α), i + k = n ∧ j 7 = .int .i64 (i : Int) ∧ j 4 = v ∧ (∀ p ∈ R, p ∈ R2) ∧ Cx cs l ∈ R2 ∧ H2 = .blk br [.slice A xs.length c, .int .i64 (a' : Int)] 100 :: .row v 158 2 i cs :: H ∧ a1 ≤ a' ∧ a' ≤ xs.length ∧ kV d l k a' = gO d n a1) n eE ⟨0, a1, .slice none 0 0, [], [], by omega, rfl, rfl, (fun _ h => List.mem_cons_of_mem _ h), List.mem_cons_self, rfl, Nat.le_refl _, by omega, hY d n a1⟩ ?_
  rintro k j' H2 R2 ⟨i, a', v, cs, l, hik, h7, h4, hR2, hcx, hH2, haa, ha', hacc⟩
  subst hH2
  have hmx := hR2 _ hm
  refine cQ (by simp only [dX, List.foldl_cons, List.foldl_nil, List.set_cons_succ, List.set_cons_zero, h7, h4]; rfl) ?_
  rcases Nat.lt_or_ge i n with hlt | hge
  · obtain ⟨k', rfl⟩ : ∃ k', k = k' + 1 := ⟨k - 1, by omega⟩
    repeat' (first | (apply aF) | (apply aA) | (apply aT) | (apply bE) | (apply aK; exact rfl) | (apply aG) | (apply aD) | (apply aU; exact rfl; ((refine bM rfl rfl (fun h => ?_) (fun h => ?_))) <;> (first | (exfalso; omega) | refine aB ?_)) | (refine aE rfl rfl ?_; ((refine aH ?_)); refine aB ?_))
    refine nQ (L1 := first) (L2 := []) rfl rfl (by simp) hone (by omega) ha' hmx (fun x a2 y hd h3 h4 hok => ?_) (fun e he => ?_)
    rotate_left
    · skip
      repeat' (first | (apply aL) | (apply bY))
      exact aN (cH H R (fun w hs => hs.weaken bU hR2) (hp e (by unfold dK; rw [hn]; simp only; rw [← hacc]; exact jF he)))
    refine aB ?_
    refine bG rfl rfl ?_
    refine eW (cs := Unp.cs x y) (by decide) (hval x y) (by rw [UnpL.len, hsz]) (fun b => ?_)
    refine aB ?_
    refine bG rfl rfl ?_
    refine cY 2 0 (news := Unp.cs x y) rfl rfl rfl rfl (by decide) (by rw [UnpL.len, hsz]) (UnpL.one x y) (by omega) (by omega) (fun v' => ?_)
    refine aB ?_
    refine iG (Cx (cs ++ Unp.cs x y) (l ++ [x])) (fun s hR => eN (hR (Cx cs l) (List.mem_append_right _ hcx)) (Unp.re hok (fun p hp => hR p (List.mem_append_left _ hp)))) ?_
    refine eF (.blk br [.slice A xs.length c, .int .i64 (a2 : Int)] 100 :: .row v' 158 2 (i + 1) (cs ++ Unp.cs x y) :: H) (Cx (cs ++ Unp.cs x y) (l ++ [x]) :: R) (fun w hs => hs.weaken (List.Sublist.cons _ (List.Sublist.refl _)) (bL List.mem_cons_self (fun p hp => List.mem_cons_of_mem _ (List.mem_append_right _ (hR2 p hp))))) ?_
    repeat' (first | (apply aA) | (apply aG) | (apply aD) | (apply bP) | (apply aU; exact rfl; ((refine bI rfl rfl (by omega) (by omega) ?_)); refine aB ?_) | (refine aE rfl rfl ?_; ((first | refine aH ?_ | refine aX ?_)); refine aB ?_))
    exact cE k' _ (Cx (cs ++ Unp.cs x y) (l ++ [x]) :: R) (by omega) eE ⟨i + 1, a2, v', cs ++ Unp.cs x y, l ++ [x], by omega, rfl, rfl, (fun _ h => List.mem_cons_of_mem _ h), List.mem_cons_self, rfl, by omega, h4, by rw [← hacc]; exact (gH hd).symm⟩ (fun w hs => hs)
  · obtain rfl : k = 0 := by omega
    repeat' (first | (apply aF) | (apply aA) | (apply bN) | (apply bV) | (apply aI; exact rfl) | (apply aG) | (apply aD) | (apply aS) | (apply aR) | (apply aU; exact rfl; ((refine bM rfl rfl (fun h => ?_) (fun h => ?_))) <;> (first | (exfalso; omega) | refine aB ?_)) | (refine aE rfl rfl ?_; ((first | refine aH ?_ | refine aX ?_)); refine aB ?_))
    refine dW 1 rfl hsz (by decide) hcx (fun A' c' hv => ?_)
    refine eO (fun w hs => dC hs List.mem_cons_self) (fun hb => ?_)
    refine bC (.inl rfl) (dM rfl (bS (v := .slice A' l.length c') (by rw [← hv]; rfl))) (eI _ (Sl (.slice A' l.length c') l :: R) (fun w hs => hs.weaken (List.Sublist.refl _) (bL List.mem_cons_self (fun p hp => List.mem_cons_of_mem _ (hR2 p hp)))) ?_)
    exact hk l a' (A', c') (by unfold dK; rw [hn]; simp only; rw [← hacc, iB]) (by omega) ha' hb
theorem g8 {w0 : World} {α : Type} [Rep α] [Unp α] [UnpL α] (hsz : Rep.size α = 3) (br : Nat) (A : Option Addr) (c : Nat) (xs : List UInt8) (hx : xs.length ≤ 250000) (f1 : FuncId) (first : List Value) [FnOk Tryz.prog f1] (m : Nat) (d : Dc α) (val : α → Unp.Y α → Value) (hval : ∀ x y, (val x y).cells = (Unp.cs x y).toArray) (hone : Rr Tryz.prog w0 f1 first br A c xs (m + 1) d val) : Rr Tryz.prog w0 140 [.pointer (some ⟨br, 0, none⟩), .func (.func f1) first.toArray #[]] br A c xs m (dK xs d) vN := by
  intro H R K KP a hma hax hm hk hp
  refine cP Tryz.func140 rfl Tryz.ntmps140 eZ ?_
  repeat' (first | (apply aF) | (apply aA) | (apply aG) | (apply aD) | (refine aE rfl rfl ?_; ((first | refine aH ?_ | refine aX ?_)); refine aB ?_))
  refine kB rfl rfl hx hax hm (fun n a1 hn h1 h2 => ?_) (fun e he => ?_)
  rotate_left
  · skip
    repeat' ((apply aL))
    exact aN (cH H R (fun w hs => hs) (hp e (by unfold dK; rw [he])))
  refine aB ?_
  repeat' (first | (apply aT) | (apply aG) | (apply aD) | (refine aE rfl rfl ?_; ((refine aH ?_)); refine aB ?_))
  refine dT (.blk br [.slice A xs.length c, .int .i64 (a1 : Int)] 100 :: .row (.slice none 0 0) 207 3 0 [] :: H) (Cx [] ([] : List α) :: R) (fun w hs => ((hs.nilrow 207 3).perm (List.Perm.swap _ _ _)).learn (Cx [] ([] : List α)) (fun s _ => fT s)) ?_
  refine cK [4, 7, 8, 9, 10, 11, 12, 13, 14] (fun k j H2 R2 => ∃ (i a' : Nat) (v : Value) (cs : List Value) (l : List α), i + k = n ∧ j 7 = .int .i64 (i : Int) ∧ j 4 = v ∧ (∀ p ∈ R, p ∈ R2) ∧ Cx cs l ∈ R2 ∧ H2 = .blk br [.slice A xs.length c, .int .i64 (a' : Int)] 100 :: .row v 207 3 i cs :: H ∧ a1 ≤ a' ∧ a' ≤ xs.length ∧ kV d l k a' = gO d n a1) n eE ⟨0, a1, .slice none 0 0, [], [], by omega, rfl, rfl, (fun _ h => List.mem_cons_of_mem _ h), List.mem_cons_self, rfl, Nat.le_refl _, by omega, hY d n a1⟩ ?_
  rintro k j' H2 R2 ⟨i, a', v, cs, l, hik, h7, h4, hR2, hcx, hH2, haa, ha', hacc⟩
  subst hH2
  have hmx := hR2 _ hm
  refine cQ (by simp only [dX, List.foldl_cons, List.foldl_nil, List.set_cons_succ, List.set_cons_zero, h7, h4]; rfl) ?_
  rcases Nat.lt_or_ge i n with hlt | hge
  · obtain ⟨k', rfl⟩ : ∃ k', k = k' + 1 := ⟨k - 1, by omega⟩
    repeat' (first | (apply aF) | (apply aA) | (apply aT) | (apply bE) | (apply aK; exact rfl) | (apply aG) | (apply aD) | (apply aU; exact rfl; ((refine bM rfl rfl (fun h => ?_) (fun h => ?_))) <;> (first | (exfalso; omega) | refine aB ?_)) | (refine aE rfl rfl ?_; ((refine aH ?_)); refine aB ?_))
    refine nQ (L1 := first) (L2 := []) rfl rfl (by simp) hone (by omega) ha' hmx (fun x a2 y hd h3 h4 hok => ?_) (fun e he => ?_)
    rotate_left
    · skip
      repeat' (first | (apply aL) | (apply bY))
      exact aN (cH H R (fun w hs => hs.weaken bU hR2) (hp e (by unfold dK; rw [hn]; simp only; rw [← hacc]; exact jF he)))
    refine aB ?_
    refine bG rfl rfl ?_
    refine eW (cs := Unp.cs x y) (by decide) (hval x y) (by rw [UnpL.len, hsz]) (fun b => ?_)
    refine aB ?_
    refine bG rfl rfl ?_
    refine cY 2 0 (news := Unp.cs x y) rfl rfl rfl rfl (by decide) (by rw [UnpL.len, hsz]) (UnpL.one x y) (by omega) (by omega) (fun v' => ?_)
    refine aB ?_
    refine iG (Cx (cs ++ Unp.cs x y) (l ++ [x])) (fun s hR => eN (hR (Cx cs l) (List.mem_append_right _ hcx)) (Unp.re hok (fun p hp => hR p (List.mem_append_left _ hp)))) ?_
    refine eF (.blk br [.slice A xs.length c, .int .i64 (a2 : Int)] 100 :: .row v' 207 3 (i + 1) (cs ++ Unp.cs x y) :: H) (Cx (cs ++ Unp.cs x y) (l ++ [x]) :: R) (fun w hs => hs.weaken (List.Sublist.cons _ (List.Sublist.refl _)) (bL List.mem_cons_self (fun p hp => List.mem_cons_of_mem _ (List.mem_append_right _ (hR2 p hp))))) ?_
    repeat' (first | (apply aA) | (apply aG) | (apply aD) | (apply bP) | (apply aU; exact rfl; ((refine bI rfl rfl (by omega) (by omega) ?_)); refine aB ?_) | (refine aE rfl rfl ?_; ((first | refine aH ?_ | refine aX ?_)); refine aB ?_))
    exact cE k' _ (Cx (cs ++ Unp.cs x y) (l ++ [x]) :: R) (by omega) eE ⟨i + 1, a2, v', cs ++ Unp.cs x y, l ++ [x], by omega, rfl, rfl, (fun _ h => List.mem_cons_of_mem _ h), List.mem_cons_self, rfl, by omega, h4, by rw [← hacc]; exact (gH hd).symm⟩ (fun w hs => hs)
  · obtain rfl : k = 0 := by omega
    repeat' (first | (apply aF) | (apply aA) | (apply bN) | (apply bV) | (apply aI; exact rfl) | (apply aG) | (apply aD) | (apply aS) | (apply aR) | (apply aU; exact rfl; ((refine bM rfl rfl (fun h => ?_) (fun h => ?_))) <;> (first | (exfalso; omega) | refine aB ?_)) | (refine aE rfl rfl ?_; ((first | refine aH ?_ | refine aX ?_)); refine aB ?_))
    refine dW 1 rfl hsz (by decide) hcx (fun A' c' hv => ?_)
    refine eO (fun w hs => dC hs List.mem_cons_self) (fun hb => ?_)
    refine bC (.inl rfl) (dM rfl (bS (v := .slice A' l.length c') (by rw [← hv]; rfl))) (eI _ (Sl (.slice A' l.length c') l :: R) (fun w hs => hs.weaken (List.Sublist.refl _) (bL List.mem_cons_self (fun p hp => List.mem_cons_of_mem _ (hR2 p hp)))) ?_)
    exact hk l a' (A', c') (by unfold dK; rw [hn]; simp only; rw [← hacc, iB]) (by omega) ha' hb
theorem i7 {w0 : World} {α : Type} [Rep α] [Unp α] [UnpL α] (hsz : Rep.size α = 1) (br : Nat) (A : Option Addr) (c : Nat) (xs : List UInt8) (hx : xs.length ≤ 250000) (f1 : FuncId) (first : List Value) [FnOk Tryz.prog f1] (m : Nat) (d : Dc α) (val : α → Unp.Y α → Value) (hval : ∀ x y, (val x y).cells = (Unp.cs x y).toArray) (hone : Rr Tryz.prog w0 f1 first br A c xs (m + 1) d val) : Rr Tryz.prog w0 134 [.pointer (some ⟨br, 0, none⟩), .func (.func f1) first.toArray #[]] br A c xs m (dK xs d) vN := by
  intro H R K KP a hma hax hm hk hp
  refine cP Tryz.func134 rfl Tryz.ntmps134 eZ ?_
  repeat' (first | (apply aF) | (apply aA) | (apply aG) | (apply aD) | (refine aE rfl rfl ?_; ((first | refine aH ?_ | refine aX ?_)); refine aB ?_))
  refine kB rfl rfl hx hax hm (fun n a1 hn h1 h2 => ?_) (fun e he => ?_)
  rotate_left
  · skip
    repeat' ((apply aL))
    exact aN (cH H R (fun w hs => hs) (hp e (by unfold dK; rw [he])))
  refine aB ?_
  repeat' (first | (apply aT) | (apply aG) | (apply aD) | (refine aE rfl rfl ?_; ((refine aH ?_)); refine aB ?_))
  refine dT (.blk br [.slice A xs.length c, .int .i64 (a1 : Int)] 100 :: .row (.slice none 0 0) 3 1 0 [] :: H) (Cx [] ([] : List α) :: R) (fun w hs => ((hs.nilrow 3 1).perm (List.Perm.swap _ _ _)).learn (Cx [] ([] : List α)) (fun s _ => fT s)) ?_
  refine cK [4, 7, 8, 9, 10, 11, 12, 13, 14] (fun k j H2 R2 => ∃ (i a' : Nat) (v : Value) (cs : List Value) (l : List α), i + k = n ∧ j 7 = .int .i64 (i : Int) ∧ j 4 = v ∧ (∀ p ∈ R, p ∈ R2) ∧ Cx cs l ∈ R2 ∧ H2 = .blk br [.slice A xs.length c, .int .i64 (a' : Int)] 100 :: .row v 3 1 i cs :: H ∧ a1 ≤ a' ∧ a' ≤ xs.length ∧ kV d l k a' = gO d n a1) n eE ⟨0, a1, .slice none 0 0, [], [], by omega, rfl, rfl, (fun _ h => List.mem_cons_of_mem _ h), List.mem_cons_self, rfl, Nat.le_refl _, by omega, hY d n a1⟩ ?_
  rintro k j' H2 R2 ⟨i, a', v, cs, l, hik, h7, h4, hR2, hcx, hH2, haa, ha', hacc⟩
  subst hH2
  have hmx := hR2 _ hm
  refine cQ (by simp only [dX, List.foldl_cons, List.foldl_nil, List.set_cons_succ, List.set_cons_zero, h7, h4]; rfl) ?_
  rcases Nat.lt_or_ge i n with hlt | hge
  · obtain ⟨k', rfl⟩ : ∃ k', k = k' + 1 := ⟨k - 1, by omega⟩
    repeat' (first | (apply aF) | (apply aA) | (apply aT) | (apply bE) | (apply aK; exact rfl) | (apply aG) | (apply aD) | (apply aU; exact rfl; ((refine bM rfl rfl (fun h => ?_) (fun h => ?_))) <;> (first | (exfalso; omega) | refine aB ?_)) | (refine aE rfl rfl ?_; ((refine aH ?_)); refine aB ?_))
    refine nQ (L1 := first) (L2 := []) rfl rfl (by simp) hone (by omega) ha' hmx (fun x a2 y hd h3 h4 hok => ?_) (fun e he => ?_)
    rotate_left
    · skip
      repeat' (first | (apply aL) | (apply bY))
      exact aN (cH H R (fun w hs => hs.weaken bU hR2) (hp e (by unfold dK; rw [hn]; simp only; rw [← hacc]; exact jF he)))
    refine aB ?_
    refine bG rfl rfl ?_
    refine eW (cs := Unp.cs x y) (by decide) (hval x y) (by rw [UnpL.len, hsz]) (fun b => ?_)
    refine aB ?_
    refine bG rfl rfl ?_
    refine cY 2 0 (news := Unp.cs x y) rfl rfl rfl rfl (by decide) (by rw [UnpL.len, hsz]) (UnpL.one x y) (by omega) (by omega) (fun v' => ?_)
    refine aB ?_
    refine iG (Cx (cs ++ Unp.cs x y) (l ++ [x])) (fun s hR => eN (hR (Cx cs l) (List.mem_append_right _ hcx)) (Unp.re hok (fun p hp => hR p (List.mem_append_left _ hp)))) ?_
    refine eF (.blk br [.slice A xs.length c, .int .i64 (a2 : Int)] 100 :: .row v' 3 1 (i + 1) (cs ++ Unp.cs x y) :: H) (Cx (cs ++ Unp.cs x y) (l ++ [x]) :: R) (fun w hs => hs.weaken (List.Sublist.cons _ (List.Sublist.refl _)) (bL List.mem_cons_self (fun p hp => List.mem_cons_of_mem _ (List.mem_append_right _ (hR2 p hp))))) ?_
    repeat' (first | (apply aA) | (apply aG) | (apply aD) | (apply bP) | (apply aU; exact rfl; ((refine bI rfl rfl (by omega) (by omega) ?_)); refine aB ?_) | (refine aE rfl rfl ?_; ((first | refine aH ?_ | refine aX ?_)); refine aB ?_))
    exact cE k' _ (Cx (cs ++ Unp.cs x y) (l ++ [x]) :: R) (by omega) eE ⟨i + 1, a2, v', cs ++ Unp.cs x y, l ++ [x], by omega, rfl, rfl, (fun _ h => List.mem_cons_of_mem _ h), List.mem_cons_self, rfl, by omega, h4, by rw [← hacc]; exact (gH hd).symm⟩ (fun w hs => hs)
  · obtain rfl : k = 0 := by omega
    repeat' (first | (apply aF) | (apply aA) | (apply bN) | (apply bV) | (apply aI; exact rfl) | (apply aG) | (apply aD) | (apply aS) | (apply aR) | (apply aU; exact rfl; ((refine bM rfl rfl (fun h => ?_) (fun h => ?_))) <;> (first | (exfalso; omega) | refine aB ?_)) | (refine aE rfl rfl ?_; ((first | refine aH ?_ | refine aX ?_)); refine aB ?_))
    refine dW 1 rfl hsz (by decide) hcx (fun A' c' hv => ?_)
    refine eO (fun w hs => dC hs List.mem_cons_self) (fun hb => ?_)
    refine bC (.inl rfl) (dM rfl (bS (v := .slice A' l.length c') (by rw [← hv]; rfl))) (eI _ (Sl (.slice A' l.length c') l :: R) (fun w hs => hs.weaken (List.Sublist.refl _) (bL List.mem_cons_self (fun p hp => List.mem_cons_of_mem _ (hR2 p hp)))) ?_)
    exact hk l a' (A', c') (by unfold dK; rw [hn]; simp only; rw [← hacc, iB]) (by omega) ha' hb
theorem aA4 {w0 : World} {α : Type} [Rep α] [Unp α] [UnpL α] (hsz : Rep.size α = 5) (br : Nat) (A : Option Addr) (c : Nat) (xs : List UInt8) (hx : xs.length ≤ 250000) (f1 : FuncId) (first : List Value) [FnOk Tryz.prog f1] (m : Nat) (d : Dc α) (val : α → Unp.Y α → Value) (hval : ∀ x y, (val x y).cells = (Unp.cs x y).toArray) (hone : Rr Tryz.prog w0 f1 first br A c xs (m + 1) d val) : Rr Tryz.prog w0 90 [.pointer (some ⟨br, 0, none⟩), .func (.func f1) first.toArray #[]] br A c xs m (dK xs d) vN := by
  intro H R K KP a hma hax hm hk hp
  refine cP Tryz.func90 rfl Tryz.ntmps90 eZ ?_
  repeat' (first | (apply aF) | (apply aA) | (apply aG) | (apply aD) | (refine aE rfl rfl ?_; ((first | refine aH ?_ | refine aX ?_)); refine aB ?_))
  refine kB rfl rfl hx hax hm (fun n a1 hn h1 h2 => ?_) (fun e he => ?_)
  rotate_left
  · skip
    repeat' ((apply aL))
    exact aN (cH H R (fun w hs => hs) (hp e (by unfold dK; rw [he])))
  refine aB ?_
  repeat' (first | (apply aT) | (apply aG) | (apply aD) | (refine aE rfl rfl ?_; ((refine aH ?_)); refine aB ?_))
  refine dT (.blk br [.slice A xs.length c, .int .i64 (a1 : Int)] 100 :: .row (.slice none 0 0) 143 5 0 [] :: H) (Cx [] ([] : List α) :: R) (fun w hs => ((hs.nilrow 143 5).perm (List.Perm.swap _ _ _)).learn (Cx [] ([] : List α)) (fun s _ => fT s)) ?_
  refine cK [4, 7, 8, 9, 10, 11, 12, 13, 14] (fun k j H2 R2 => ∃ (i a' : Nat) (v : Value) (cs : List Value) (l : List α), i + k = n ∧ j 7 = .int .i64 (i : Int) ∧ j 4 = v ∧ (∀ p ∈ R, p ∈ R2) ∧ Cx cs l ∈ R2 ∧ H2 = .blk br [.slice A xs.length c, .int .i64 (a' : Int)] 100 :: .row v 143 5 i cs :: H ∧ a1 ≤ a' ∧ a' ≤ xs.length ∧ kV d l k a' = gO d n a1) n eE ⟨0, a1, .slice none 0 0, [], [], by omega, rfl, rfl, (fun _ h => List.mem_cons_of_mem _ h), List.mem_cons_self, rfl, Nat.le_refl _, by omega, hY d n a1⟩ ?_
  rintro k j' H2 R2 ⟨i, a', v, cs, l, hik, h7, h4, hR2, hcx, hH2, haa, ha', hacc⟩
  subst hH2
  have hmx := hR2 _ hm
  refine cQ (by simp only [dX, List.foldl_cons, List.foldl_nil, List.set_cons_succ, List.set_cons_zero, h7, h4]; rfl) ?_
  rcases Nat.lt_or_ge i n with hlt | hge
  · obtain ⟨k', rfl⟩ : ∃ k', k = k' + 1 := ⟨k - 1, by omega⟩
    repeat' (first | (apply aF) | (apply aA) | (apply aT) | (apply bE) | (apply aK; exact rfl) | (apply aG) | (apply aD) | (apply aU; exact rfl; ((refine bM rfl rfl (fun h => ?_) (fun h => ?_))) <;> (first | (exfalso; omega) | refine aB ?_)) | (refine aE rfl rfl ?_; ((refine aH ?_)); refine aB ?_))
    refine nQ (L1 := first) (L2 := []) rfl rfl (by simp) hone (by omega) ha' hmx (fun x a2 y hd h3 h4 hok => ?_) (fun e he => ?_)
    rotate_left
    · skip
      repeat' (first | (apply aL) | (apply bY))
      exact aN (cH H R (fun w hs => hs.weaken bU hR2) (hp e (by unfold dK; rw [hn]; simp only; rw [← hacc]; exact jF he)))
    refine aB ?_
    refine bG rfl rfl ?_
    refine eW (cs := Unp.cs x y) (by decide) (hval x y) (by rw [UnpL.len, hsz]) (fun b => ?_)
    refine aB ?_
    refine bG rfl rfl ?_
    refine cY 2 0 (news := Unp.cs x y) rfl rfl rfl rfl (by decide) (by rw [UnpL.len, hsz]) (UnpL.one x y) (by omega) (by omega) (fun v' => ?_)
    refine aB ?_
    refine iG (Cx (cs ++ Unp.cs x y) (l ++ [x])) (fun s hR => eN (hR (Cx cs l) (List.mem_append_right _ hcx)) (Unp.re hok (fun p hp => hR p (List.mem_append_left _ hp)))) ?_
    refine eF (.blk br [.slice A xs.length c, .int .i64 (a2 : Int)] 100 :: .row v' 143 5 (i + 1) (cs ++ Unp.cs x y) :: H) (Cx (cs ++ Unp.cs x y) (l ++ [x]) :: R) (fun w hs => hs.weaken (List.Sublist.cons _ (List.Sublist.refl _)) (bL List.mem_cons_self (fun p hp => List.mem_cons_of_mem _ (List.mem_append_right _ (hR2 p hp))))) ?_
    repeat' (first | (apply aA) | (apply aG) | (apply aD) | (apply bP) | (apply aU; exact rfl; ((refine bI rfl rfl (by omega) (by omega) ?_)); refine aB ?_) | (refine aE rfl rfl ?_; ((first | refine aH ?_ | refine aX ?_)); refine aB ?_))
    exact cE k' _ (Cx (cs ++ Unp.cs x y) (l ++ [x]) :: R) (by omega) eE ⟨i + 1, a2, v', cs ++ Unp.cs x y, l ++ [x], by omega, rfl, rfl, (fun _ h => List.mem_cons_of_mem _ h), List.mem_cons_self, rfl, by omega, h4, by rw [← hacc]; exact (gH hd).symm⟩ (fun w hs => hs)
  · obtain rfl : k = 0 := by omega
    repeat' (first | (apply aF) | (apply aA) | (apply bN) | (apply bV) | (apply aI; exact rfl) | (apply aG) | (apply aD) | (apply aS) | (apply aR) | (apply aU; exact rfl; ((refine bM rfl rfl (fun h => ?_) (fun h => ?_))) <;> (first | (exfalso; omega) | refine aB ?_)) | (refine aE rfl rfl ?_; ((first | refine aH ?_ | refine aX ?_)); refine aB ?_))
    refine dW 1 rfl hsz (by decide) hcx (fun A' c' hv => ?_)
    refine eO (fun w hs => dC hs List.mem_cons_self) (fun hb => ?_)
    refine bC (.inl rfl) (dM rfl (bS (v := .slice A' l.length c') (by rw [← hv]; rfl))) (eI _ (Sl (.slice A' l.length c') l :: R) (fun w hs => hs.weaken (List.Sublist.refl _) (bL List.mem_cons_self (fun p hp => List.mem_cons_of_mem _ (hR2 p hp)))) ?_)
    exact hk l a' (A', c') (by unfold dK; rw [hn]; simp only; rw [← hacc, iB]) (by omega) ha' hb
end Go.Proofs.YtggdljhmbckpmaaGreat
namespace Go.Proofs.YtggdljhmbckpmaaGreat
open Go Go.RowKit
set_option maxRecDepth 100000
set_option maxHeartbeats 1600000

theorem aB0 {w0 : World} {α : Type} [Rep α] [Unp α] [UnpL α] (hsz : Rep.size α = 7) (br : Nat) (A : Option Addr) (c : Nat) (xs : List UInt8) (hx : xs.length ≤ 250000) (f1 : FuncId) (first : List Value) [FnOk Tryz.prog f1] (m : Nat) (d : Dc α) (val : α → Unp.Y α → Value) (hval : ∀ x y, (val x y).cells = (Unp.cs x y).toArray) (hone : Rr Tryz.prog w0 f1 first br A c xs (m + 1) d val) : Rr Tryz.prog w0 92 [.pointer (some ⟨br, 0, none⟩), .func (.func f1) first.toArray #[]] br A c xs m (dK xs d) vN := by
  intro H R K KP a hma hax hm hk hp
  refine cP Tryz.func92 rfl Tryz.ntmps92 eZ ?_
  repeat' (first | (apply aF) | (apply aA) | (apply aG) | (apply aD) | (refine aE rfl rfl ?_; ((first | refine aH ?_ | refine aX ?_)); refine aB ?_))
  refine kB rfl rfl hx hax hm (fun n a1 hn h1 h2 => ?_) (fun e he => ?_)
  rotate_left
  · skip
    repeat' ((apply aL))
    exact aN (cH H R (fun w hs => hs) (hp e (by unfold dK; rw [he])))
  refine aB ?_
  repeat' (first | (apply aT) | (apply aG) | (apply aD) | (refine aE rfl rfl ?_; ((refine aH ?_)); refine aB ?_))
  refine dT (.blk br [.slice A xs.length c, .int .i64 (a1 : Int)] 100 :: .row (.slice none 0 0) 147 7 0 [] :: H) (Cx [] ([] : List α) :: R) (fun w hs => ((hs.nilrow 147 7).perm (List.Perm.swap _ _ _)).learn (Cx [] ([] : List α)) (fun s _ => fT s)) ?_
  refine cK [4, 7, 8, 9, 10, 11, 12, 13, 14] (fun k j H2 R2 => ∃ (i a' : Nat) (v : Value) (cs : List Value) (l : List α), i + k = n ∧ j 7 = .int .i64 (i : Int) ∧ j 4 = v ∧ (∀ p ∈ R, p ∈ R2) ∧ Cx cs l ∈ R2 ∧ H2 = .blk br [.slice A xs.length c, .int .i64 (a' : Int)] 100 :: .row v 147 7 i cs :: H ∧ a1 ≤ a' ∧ a' ≤ xs.length ∧ kV d l k a' = gO d n a1) n eE ⟨0, a1, .slice none 0 0, [], [], by omega, rfl, rfl, (fun _ h => List.mem_cons_of_mem _ h), List.mem_cons_self, rfl, Nat.le_refl _, by omega, hY d n a1⟩ ?_
  rintro k j' H2 R2 ⟨i, a', v, cs, l, hik, h7, h4, hR2, hcx, hH2, haa, ha', hacc⟩
  subst hH2
  have hmx := hR2 _ hm
  refine cQ (by simp only [dX, List.foldl_cons, List.foldl_nil, List.set_cons_succ, List.set_cons_zero, h7, h4]; rfl) ?_
  rcases Nat.lt_or_ge i n with hlt | hge
  · obtain ⟨k', rfl⟩ : ∃ k', k = k' + 1 := ⟨k - 1, by omega⟩
    repeat' (first | (apply aF) | (apply aA) | (apply aT) | (apply bE) | (apply aK; exact rfl) | (apply aG) | (apply aD) | (apply aU; exact rfl; ((refine bM rfl rfl (fun h => ?_) (fun h => ?_))) <;> (first | (exfalso; omega) | refine aB ?_)) | (refine aE rfl rfl ?_; ((refine aH ?_)); refine aB ?_))
    refine nQ (L1 := first) (L2 := []) rfl rfl (by simp) hone (by omega) ha' hmx (fun x a2 y hd h3 h4 hok => ?_) (fun e he => ?_)
    rotate_left
    · skip
      repeat' (first | (apply aL) | (apply bY))
      exact aN (cH H R (fun w hs => hs.weaken bU hR2) (hp e (by unfold dK; rw [hn]; simp only; rw [← hacc]; exact jF he)))
    refine aB ?_
    refine bG rfl rfl ?_
    refine eW (cs := Unp.cs x y) (by decide) (hval x y) (by rw [UnpL.len, hsz]) (fun b => ?_)
    refine aB ?_
    refine bG rfl rfl ?_
    refine cY 2 0 (news := Unp.cs x y) rfl rfl rfl rfl (by decide) (by rw [UnpL.len, hsz]) (UnpL.one x y) (by omega) (by omega) (fun v' => ?_)
    refine aB ?_
    refine iG (Cx (cs ++ Unp.cs x y) (l ++ [x])) (fun s hR => eN (hR (Cx cs l) (List.mem_append_right _ hcx)) (Unp.re hok (fun p hp => hR p (List.mem_append_left _ hp)))) ?_
    refine eF (.blk br [.slice A xs.length c, .int .i64 (a2 : Int)] 100 :: .row v' 147 7 (i + 1) (cs ++ Unp.cs x y) :: H) (Cx (cs ++ Unp.cs x y) (l ++ [x]) :: R) (fun w hs => hs.weaken (List.Sublist.cons _ (List.Sublist.refl _)) (bL List.mem_cons_self (fun p hp => List.mem_cons_of_mem _ (List.mem_append_right _ (hR2 p hp))))) ?_
    repeat' (first | (apply aA) | (apply aG) | (apply aD) | (apply bP) | (apply aU; exact rfl; ((refine bI rfl rfl (by omega) (by omega) ?_)); refine aB ?_) | (refine aE rfl rfl ?_; ((first | refine aH ?_ | refine aX ?_)); refine aB ?_))
    exact cE k' _ (Cx (cs ++ Unp.cs x y) (l ++ [x]) :: R) (by omega) eE ⟨i + 1, a2, v', cs ++ Unp.cs x y, l ++ [x], by omega, rfl, rfl, (fun _ h => List.mem_cons_of_mem _ h), List.mem_cons_self, rfl, by omega, h4, by rw [← hacc]; exact (gH hd).symm⟩ (fun w hs => hs)
  · obtain rfl : k = 0 := by omega
    repeat' (first | (apply aF) | (apply aA) | (apply bN) | (apply bV) | (apply aI; exact rfl) | (apply aG) | (apply aD) | (apply aS) | (apply aR) | (apply aU; exact rfl; ((refine bM rfl rfl (fun h => ?_) (fun h => ?_))) <;> (first | (exfalso; omega) | refine aB ?_)) | (refine aE rfl rfl ?_; ((first | refine aH ?_ | refine aX ?_)); refine aB ?_))
    refine dW 1 rfl hsz (by decide) hcx (fun A' c' hv => ?_)
    refine eO (fun w hs => dC hs List.mem_cons_self) (fun hb => ?_)
    refine bC (.inl rfl) (dM rfl (bS (v := .slice A' l.length c') (by rw [← hv]; rfl))) (eI _ (Sl (.slice A' l.length c') l :: R) (fun w hs => hs.weaken (List.Sublist.refl _) (bL List.mem_cons_self (fun p hp => List.mem_cons_of_mem _ (hR2 p hp)))) ?_)
    exact hk l a' (A', c') (by unfold dK; rw [hn]; simp only; rw [← hacc, iB]) (by omega) ha' hb
theorem get87_r {w0 : World} {α : Type} [Rep α] [Unp α] [UnpL α] (hsz : Rep.size α = 7) (br : Nat) (A : Option Addr) (c : Nat) (xs : List UInt8) (hx : xs.length ≤ 250000) (f1 : FuncId) (first : List Value) [FnOk Tryz.prog f1] (m : Nat) (d : Dc α) (val : α → Unp.Y α → Value) (hval : ∀ x y, (val x y).cells = (Unp.cs x y).toArray) (hone : Rr Tryz.prog w0 f1 first br A c xs (m + 1) d val) : Rr Tryz.prog w0 94 [.pointer (some ⟨br, 0, none⟩), .func (.func f1) first.toArray #[]] br A c xs m (dK xs d) vN := by
  intro H R K KP a hma hax hm hk hp
  refine cP Tryz.func94 rfl Tryz.ntmps94 eZ ?_
  repeat' (first | (apply aF) | (apply aA) | (apply aG) | (apply aD) | (refine aE rfl rfl ?_; ((first | refine aH ?_ | refine aX ?_)); refine aB ?_))
  refine kB rfl rfl hx hax hm (fun n a1 hn h1 h2 => ?_) (fun e he => ?_)
  rotate_left
  · skip
    repeat' ((apply aL))
    exact aN (cH H R (fun w hs => hs) (hp e (by unfold dK; rw [he])))
  refine aB ?_
  repeat' (first | (apply aT) | (apply aG) | (apply aD) | (refine aE rfl rfl ?_; ((refine aH ?_)); refine aB ?_))
  refine dT (.blk br [.slice A xs.length c, .int .i64 (a1 : Int)] 100 :: .row (.slice none 0 0) 153 7 0 [] :: H) (Cx [] ([] : List α) :: R) (fun w hs => ((hs.nilrow 153 7).perm (List.Perm.swap _ _ _)).learn (Cx [] ([] : List α)) (fun s _ => fT s)) ?_
  refine cK [4, 7, 8, 9, 10, 11, 12, 13, 14] (fun k j H2 R2 => ∃ (i a' : Nat) (v : Value) (cs : List Value) (l : List α), i + k = n ∧ j 7 = .int .i64 (i : Int) ∧ j 4 = v ∧ (∀ p ∈ R, p ∈ R2) ∧ Cx cs l ∈ R2 ∧ H2 = .blk br [.slice A xs.length c, .int .i64 (a' : Int)] 100 :: .row v 153 7 i cs :: H ∧ a1 ≤ a' ∧ a' ≤ xs.length ∧ kV d l k a' = gO d n a1) n eE ⟨0, a1, .slice none 0 0, [], [], by omega, rfl, rfl, (fun _ h => List.mem_cons_of_mem _ h), List.mem_cons_self, rfl, Nat.le_refl _, by omega, hY d n a1⟩ ?_
  rintro k j' H2 R2 ⟨i, a', v, cs, l, hik, h7, h4, hR2, hcx, hH2, haa, ha', hacc⟩
  subst hH2
  have hmx := hR2 _ hm
  refine cQ (by simp only [dX, List.foldl_cons, List.foldl_nil, List.set_cons_succ, List.set_cons_zero, h7, h4]; rfl) ?_
  rcases Nat.lt_or_ge i n with hlt | hge
  · obtain ⟨k', rfl⟩ : ∃ k', k = k' + 1 := ⟨k - 1, by omega⟩
    repeat' (first | (apply aF) | (apply aA) | (apply aT) | (apply bE) | (apply aK; exact rfl) | (apply aG) | (apply aD) | (apply aU; exact rfl; ((refine bM rfl rfl (fun h => ?_) (fun h => ?_))) <;> (first | (exfalso; omega) | refine aB ?_)) | (refine aE rfl rfl ?_; ((refine aH ?_)); refine aB ?_))
    refine nQ (L1 := first) (L2 := []) rfl rfl (by simp) hone (by omega) ha' hmx (fun x a2 y hd h3 h4 hok => ?_) (fun e he => ?_)
    rotate_left
    · skip
      repeat' (first | (apply aL) | (apply bY))
      exact aN (cH H R (fun w hs => hs.weaken bU hR2) (hp e (by unfold dK; rw [hn]; simp only; rw [← hacc]; exact jF he)))
    refine aB ?_
    refine bG rfl rfl ?_
    refine eW (cs := Unp.cs x y) (by decide) (hval x y) (by rw [UnpL.len, hsz]) (fun b => ?_)
    refine aB ?_
    refine bG rfl rfl ?_
    refine cY 2 0 (news := Unp.cs x y) rfl rfl rfl rfl (by decide) (by rw [UnpL.len, hsz]) (UnpL.one x y) (by omega) (by omega) (fun v' => ?_)
    refine aB ?_
    refine iG (Cx (cs ++ Unp.cs x y) (l ++ [x])) (fun s hR => eN (hR (Cx cs l) (List.mem_append_right _ hcx)) (Unp.re hok (fun p hp => hR p (List.mem_append_left _ hp)))) ?_
    refine eF (.blk br [.slice A xs.length c, .int .i64 (a2 : Int)] 100 :: .row v' 153 7 (i + 1) (cs ++ Unp.cs x y) :: H) (Cx (cs ++ Unp.cs x y) (l ++ [x]) :: R) (fun w hs => hs.weaken (List.Sublist.cons _ (List.Sublist.refl _)) (bL List.mem_cons_self (fun p hp => List.mem_cons_of_mem _ (List.mem_append_right _ (hR2 p hp))))) ?_
    repeat' (first | (apply aA) | (apply aG) | (apply aD) | (apply bP) | (apply aU; exact rfl; ((refine bI rfl rfl (by omega) (by omega) ?_)); refine aB ?_) | (refine aE rfl rfl ?_; ((first | refine aH ?_ | refine aX ?_)); refine aB ?_))
    exact cE k' _ (Cx (cs ++ Unp.cs x y) (l ++ [x]) :: R) (by omega) eE ⟨i + 1, a2, v', cs ++ Unp.cs x y, l ++ [x], by omega, rfl, rfl, (fun _ h => List.mem_cons_of_mem _ h), List.mem_cons_self, rfl, by omega, h4, by rw [← hacc]; exact (gH hd).symm⟩ (fun w hs => hs)
  · obtain rfl : k = 0 := by omega
    repeat' (first | (apply aF) | (apply aA) | (apply bN) | (apply bV) | (apply aI; exact rfl) | (apply aG) | (apply aD) | (apply aS) | (apply aR) | (apply aU; exact rfl; ((refine bM rfl rfl (fun h => ?_) (fun h => ?_))) <;> (first | (exfalso; omega) | refine aB ?_)) | (refine aE rfl rfl ?_; ((first | refine aH ?_ | refine aX ?_)); refine aB ?_))
    refine dW 1 rfl hsz (by decide) hcx (fun A' c' hv => ?_)
    refine eO (fun w hs => dC hs List.mem_cons_self) (fun hb => ?_)
    refine bC (.inl rfl) (dM rfl (bS (v := .slice A' l.length c') (by rw [← hv]; rfl))) (eI _ (Sl (.slice A' l.length c') l :: R) (fun w hs => hs.weaken (List.Sublist.refl _) (bL List.mem_cons_self (fun p hp => List.mem_cons_of_mem _ (hR2 p hp)))) ?_)
    exact hk l a' (A', c') (by unfold dK; rw [hn]; simp only; rw [← hacc, iB]) (by omega) ha' hb
theorem aC0 {w0 : World} {α : Type} [Rep α] [Unp α] [UnpL α] (hsz : Rep.size α = 8) (br : Nat) (A : Option Addr) (c : Nat) (xs : List UInt8) (hx : xs.length ≤ 250000) (f1 : FuncId) (first : List Value) [FnOk Tryz.prog f1] (m : Nat) (d : Dc α) (val : α → Unp.Y α → Value) (hval : ∀ x y, (val x y).cells = (Unp.cs x y).toArray) (hone : Rr Tryz.prog w0 f1 first br A c xs (m + 1) d val) : Rr Tryz.prog w0 96 [.pointer (some ⟨br, 0, none⟩), .func (.func f1) first.toArray #[]] br A c xs m (dK xs d) vN := by
  intro H R K KP a hma hax hm hk hp
  refine cP Tryz.func96 rfl Tryz.ntmps96 eZ ?_
  repeat' (first | (apply aF) | (apply aA) | (apply aG) | (apply aD) | (refine aE rfl rfl ?_; ((first | refine aH ?_ | refine aX ?_)); refine aB ?_))
  refine kB rfl rfl hx hax hm (fun n a1 hn h1 h2 => ?_) (fun e he => ?_)
  rotate_left
  · skip
    repeat' ((apply aL))
    exact aN (cH H R (fun w hs => hs) (hp e (by unfold dK; rw [he])))
  refine aB ?_
  repeat' (first | (apply aT) | (apply aG) | (apply aD) | (refine aE rfl rfl ?_; ((refine aH ?_)); refine aB ?_))
  refine dT (.blk br [.slice A xs.length c, .int .i64 (a1 : Int)] 100 :: .row (.slice none 0 0) 162 8 0 [] :: H) (Cx [] ([] : List α) :: R) (fun w hs => ((hs.nilrow 162 8).perm (List.Perm.swap _ _ _)).learn (Cx [] ([] : List α)) (fun s _ => fT s)) ?_
  refine cK [4, 7, 8, 9, 10, 11, 12, 13, 14] (fun k j H2 R2 => ∃ (i a' : Nat) (v : Value) (cs : List Value) (l : List α), i + k = n ∧ j 7 = .int .i64 (i : Int) ∧ j 4 = v ∧ (∀ p ∈ R, p ∈ R2) ∧ Cx cs l ∈ R2 ∧ H2 = .blk br [.slice A xs.length c, .int .i64 (a' : Int)] 100 :: .row v 162 8 i cs :: H ∧ a1 ≤ a' ∧ a' ≤ xs.length ∧ kV d l k a' = gO d n a1) n eE ⟨0, a1, .slice none 0 0, [], [], by omega, rfl, rfl, (fun _ h => List.mem_cons_of_mem _ h), List.mem_cons_self, rfl, Nat.le_refl _, by omega, hY d n a1⟩ ?_
  rintro k j' H2 R2 ⟨i, a', v, cs, l, hik, h7, h4, hR2, hcx, hH2, haa, ha', hacc⟩
  subst hH2
  have hmx := hR2 _ hm
  refine cQ (by simp only [dX, List.foldl_cons, List.foldl_nil, List.set_cons_succ, List.set_cons_zero, h7, h4]; rfl) ?_
  rcases Nat.lt_or_ge i n with hlt | hge
  · obtain ⟨k', rfl⟩ : ∃ k', k = k' + 1 := ⟨k - 1, by omega⟩
    repeat' (first | (apply aF) | (apply aA) | (apply aT) | (apply bE) | (apply aK; exact rfl) | (apply aG) | (apply aD) | (apply aU; exact rfl; ((refine bM rfl rfl (fun h => ?_) (fun h => ?_))) <;> (first | (exfalso; omega) | refine aB ?_)) | (refine aE rfl rfl ?_; ((refine aH ?_)); refine aB ?_))
    refine nQ (L1 := first) (L2 := []) rfl rfl (by simp) hone (by omega) ha' hmx (fun x a2 y hd h3 h4 hok => ?_) (fun e he => ?_)
    rotate_left
    · skip
      repeat' (first | (apply aL) | (apply bY))
      exact aN (cH H R (fun w hs => hs.weaken bU hR2) (hp e (by unfold dK; rw [hn]; simp only; rw [← hacc]; exact jF he)))
    refine aB ?_
    refine bG rfl rfl ?_
    refine eW (cs := Unp.cs x y) (by decide) (hval x y) (by rw [UnpL.len, hsz]) (fun b => ?_)
    refine aB ?_
    refine bG rfl rfl ?_
    refine cY 2 0 (news := Unp.cs x y) rfl rfl rfl rfl (by decide) (by rw [UnpL.len, hsz]) (UnpL.one x y) (by omega) (by omega) (fun v' => ?_)
    refine aB ?_
    refine iG (Cx (cs ++ Unp.cs x y) (l ++ [x])) (fun s hR => eN (hR (Cx cs l) (List.mem_append_right _ hcx)) (Unp.re hok (fun p hp => hR p (List.mem_append_left _ hp)))) ?_
    refine eF (.blk br [.slice A xs.length c, .int .i64 (a2 : Int)] 100 :: .row v' 162 8 (i + 1) (cs ++ Unp.cs x y) :: H) (Cx (cs ++ Unp.cs x y) (l ++ [x]) :: R) (fun w hs => hs.weaken (List.Sublist.cons _ (List.Sublist.refl _)) (bL List.mem_cons_self (fun p hp => List.mem_cons_of_mem _ (List.mem_append_right _ (hR2 p hp))))) ?_
    repeat' (first | (apply aA) | (apply aG) | (apply aD) | (apply bP) | (apply aU; exact rfl; ((refine bI rfl rfl (by omega) (by omega) ?_)); refine aB ?_) | (refine aE rfl rfl ?_; ((first | refine aH ?_ | refine aX ?_)); refine aB ?_))
    exact cE k' _ (Cx (cs ++ Unp.cs x y) (l ++ [x]) :: R) (by omega) eE ⟨i + 1, a2, v', cs ++ Unp.cs x y, l ++ [x], by omega, rfl, rfl, (fun _ h => List.mem_cons_of_mem _ h), List.mem_cons_self, rfl, by omega, h4, by rw [← hacc]; exact (gH hd).symm⟩ (fun w hs => hs)
  · obtain rfl : k = 0 := by omega
    repeat' (first | (apply aF) | (apply aA) | (apply bN) | (apply bV) | (apply aI; exact rfl) | (apply aG) | (apply aD) | (apply aS) | (apply aR) | (apply aU; exact rfl; ((refine bM rfl rfl (fun h => ?_) (fun h => ?_))) <;> (first | (exfalso; omega) | refine aB ?_)) | (refine aE rfl rfl ?_; ((first | refine aH ?_ | refine aX ?_)); refine aB ?_))
    refine dW 1 rfl hsz (by decide) hcx (fun A' c' hv => ?_)
    refine eO (fun w hs => dC hs List.mem_cons_self) (fun hb => ?_)
    refine bC (.inl rfl) (dM rfl (bS (v := .slice A' l.length c') (by rw [← hv]; rfl))) (eI _ (Sl (.slice A' l.length c') l :: R) (fun w hs => hs.weaken (List.Sublist.refl _) (bL List.mem_cons_self (fun p hp => List.mem_cons_of_mem _ (hR2 p hp)))) ?_)
    exact hk l a' (A', c') (by unfold dK; rw [hn]; simp only; rw [← hacc, iB]) (by omega) ha' hb
theorem aA2 {w0 : World} {α : Type} [Rep α] [Unp α] [UnpL α] (hsz : Rep.size α = 9) (br : Nat) (A : Option Addr) (c : Nat) (xs : List UInt8) (hx : xs.length ≤ 250000) (f1 : FuncId) (first : List Value) [FnOk Tryz.prog f1] (m : Nat) (d : Dc α) (val : α → Unp.Y α → Value) (hval : ∀ x y, (val x y).cells = (Unp.cs x y).toArray) (hone : Rr Tryz.prog w0 f1 first br A c xs (m + 1) d val) : Rr Tryz.prog w0 98 [.pointer (some ⟨br, 0, none⟩), .func (.func f1) first.toArray #[]] br A c xs m (dK xs d) vN := by
  intro H R K KP a hma hax hm hk hp
  refine cP Tryz.func98 rfl Tryz.ntmps98 eZ ?_
  repeat' (first | (apply aF) | (apply aA) | (apply aG) | (apply aD) | (refine aE rfl rfl ?_; ((first | refine aH ?_ | refine aX ?_)); refine aB ?_))
  refine kB rfl rfl hx hax hm (fun n a1 hn h1 h2 => ?_) (fun e he => ?_)
  rotate_left
  · skip
    repeat' ((apply aL))
    exact aN (cH H R (fun w hs => hs) (hp e (by unfold dK; rw [he])))
  refine aB ?_
  repeat' (first | (apply aT) | (apply aG) | (apply aD) | (refine aE rfl rfl ?_; ((refine aH ?_)); refine aB ?_))
  refine dT (.blk br [.slice A xs.length c, .int .i64 (a1 : Int)] 100 :: .row (.slice none 0 0) 166 9 0 [] :: H) (Cx [] ([] : List α) :: R) (fun w hs => ((hs.nilrow 166 9).perm (List.Perm.swap _ _ _)).learn (Cx [] ([] : List α)) (fun s _ => fT s)) ?_
  refine cK [4, 7, 8, 9, 10, 11, 12, 13, 14] (fun k j H2 R2 => ∃ (i a' : Nat) (v : Value) (cs : List Value) (l : List α), i + k = n ∧ j 7 = .int .i64 (i : Int) ∧ j 4 = v ∧ (∀ p ∈ R, p ∈ R2) ∧ Cx cs l ∈ R2 ∧ H2 = .blk br [.slice A xs.length c, .int .i64 (a' : Int)] 100 :: .row v 166 9 i cs :: H ∧ a1 ≤ a' ∧ a' ≤ xs.length ∧ kV d l k a' = gO d n a1) n eE ⟨0, a1, .slice none 0 0, [], [], by omega, rfl, rfl, (fun _ h => List.mem_cons_of_mem _ h), List.mem_cons_self, rfl, Nat.le_refl _, by omega, hY d n a1⟩ ?_
  rintro k j' H2 R2 ⟨i, a', v, cs, l, hik, h7, h4, hR2, hcx, hH2, haa, ha', hacc⟩
  subst hH2
  have hmx := hR2 _ hm
  refine cQ (by simp only [dX, List.foldl_cons, List.foldl_nil, List.set_cons_succ, List.set_cons_zero, h7, h4]; rfl) ?_
  rcases Nat.lt_or_ge i n with hlt | hge
  · obtain ⟨k', rfl⟩ : ∃ k', k = k' + 1 := ⟨k - 1, by omega⟩
    repeat' (first | (apply aF) | (apply aA) | (apply aT) | (apply bE) | (apply aK; exact rfl) | (apply aG) | (apply aD) | (apply aU; exact rfl; ((refine bM rfl rfl (fun h => ?_) (fun h => ?_))) <;> (first | (exfalso; omega) | refine aB ?_)) | (refine aE rfl rfl ?_; ((refine aH ?_)); refine aB ?_))
    refine nQ (L1 := first) (L2 := []) rfl rfl (by simp) hone (by omega) ha' hmx (fun x a2 y hd h3 h4 hok => ?_) (fun e he => ?_)
    rotate_left
    · skip
      repeat' (first | (apply aL) | (apply bY))
      exact aN (cH H R (fun w hs => hs.weaken bU hR2) (hp e (by unfold dK; rw [hn]; simp only; rw [← hacc]; exact jF he)))
    refine aB ?_
    refine bG rfl rfl ?_
    refine eW (cs := Unp.cs x y) (by decide) (hval x y) (by rw [UnpL.len, hsz]) (fun b => ?_)
    refine aB ?_
    refine bG rfl rfl ?_
    refine cY 2 0 (news := Unp.cs x y) rfl rfl rfl rfl (by decide) (by rw [UnpL.len, hsz]) (UnpL.one x y) (by omega) (by omega) (fun v' => ?_)
    refine aB ?_
    refine iG (Cx (cs ++ Unp.cs x y) (l ++ [x])) (fun s hR => eN (hR (Cx cs l) (List.mem_append_right _ hcx)) (Unp.re hok (fun p hp => hR p (List.mem_append_left _ hp)))) ?_
    refine eF (.blk br [.slice A xs.length c, .int .i64 (a2 : Int)] 100 :: .row v' 166 9 (i + 1) (cs ++ Unp.cs x y) :: H) (Cx (cs ++ Unp.cs x y) (l ++ [x]) :: R) (fun w hs => hs.weaken (List.Sublist.cons _ (List.Sublist.refl _)) (bL List.mem_cons_self (fun p hp => List.mem_cons_of_mem _ (List.mem_append_right _ (hR2 p hp))))) ?_
    repeat' (first | (apply aA) | (apply aG) | (apply aD) | (apply bP) | (apply aU; exact rfl; ((refine bI rfl rfl (by omega) (by omega) ?_)); refine aB ?_) | (refine aE rfl rfl ?_; ((first | refine aH ?_ | refine aX ?_)); refine aB ?_))
    exact cE k' _ (Cx (cs ++ Unp.cs x y) (l ++ [x]) :: R) (by omega) eE ⟨i + 1, a2, v', cs ++ Unp.cs x y, l ++ [x], by omega, rfl, rfl, (fun _ h => List.mem_cons_of_mem _ h), List.mem_cons_self, rfl, by omega, h4, by rw [← hacc]; exact (gH hd).symm⟩ (fun w hs => hs)
  · obtain rfl : k = 0 := by omega
    repeat' (first | (apply aF) | (apply aA) | (apply bN) | (apply bV) | (apply aI; exact rfl) | (apply aG) | (apply aD) | (apply aS) | (apply aR) | (apply aU; exact rfl; ((refine bM rfl rfl (fun h => ?_) (fun h => ?_))) <;> (first | (exfalso; omega) | refine aB ?_)) | (refine aE rfl rfl ?_; ((first | refine aH ?_ | refine aX ?_)); refine aB ?_))
    refine dW 1 rfl hsz (by decide) hcx (fun A' c' hv => ?_)
    refine eO (fun w hs => dC hs List.mem_cons_self) (fun hb => ?_)
    refine bC (.inl rfl) (dM rfl (bS (v := .slice A' l.length c') (by rw [← hv]; rfl))) (eI _ (Sl (.slice A' l.length c') l :: R) (fun w hs => hs.weaken (List.Sublist.refl _) (bL List.mem_cons_self (fun p hp => List.mem_cons_of_mem _ (hR2 p hp)))) ?_)
    exact hk l a' (A', c') (by unfold dK; rw [hn]; simp only; rw [← hacc, iB]) (by omega) ha' hb
theorem aA5 {w0 : World} {α : Type} [Rep α] [Unp α] [UnpL α] (hsz : Rep.size α = 18) (br : Nat) (A : Option Addr) (c : Nat) (xs : List UInt8) (hx : xs.length ≤ 250000) (f1 : FuncId) (first : List Value) [FnOk Tryz.prog f1] (m : Nat) (d : Dc α) (val : α → Unp.Y α → Value) (hval : ∀ x y, (val x y).cells = (Unp.cs x y).toArray) (hone : Rr Tryz.prog w0 f1 first br A c xs (m + 1) d val) : Rr Tryz.prog w0 100 [.pointer (some ⟨br, 0, none⟩), .func (.func f1) first.toArray #[]] br A c xs m (dK xs d) vN := by
  intro H R K KP a hma hax hm hk hp
  refine cP Tryz.func100 rfl Tryz.ntmps100 eZ ?_
  repeat' (first | (apply aF) | (apply aA) | (apply aG) | (apply aD) | (refine aE rfl rfl ?_; ((first | refine aH ?_ | refine aX ?_)); refine aB ?_))
  refine kB rfl rfl hx hax hm (fun n a1 hn h1 h2 => ?_) (fun e he => ?_)
  rotate_left
  · skip
    repeat' ((apply aL))
    exact aN (cH H R (fun w hs => hs) (hp e (by unfold dK; rw [he])))
  refine aB ?_
  repeat' (first | (apply aT) | (apply aG) | (apply aD) | (refine aE rfl rfl ?_; ((refine aH ?_)); refine aB ?_))
  refine dT (.blk br [.slice A xs.length c, .int .i64 (a1 : Int)] 100 :: .row (.slice none 0 0) 115 18 0 [] :: H) (Cx [] ([] : List α) :: R) (fun w hs => ((hs.nilrow 115 18).perm (List.Perm.swap _ _ _)).learn (Cx [] ([] : List α)) (fun s _ => fT s)) ?_
  refine cK [4, 7, 8, 9, 10, 11, 12, 13, 14] (fun k j H2 R2 => ∃ (i a' : Nat) (v : Value) (cs : List Value) (l : List α), i + k = n ∧ j 7 = .int .i64 (i : Int) ∧ j 4 = v ∧ (∀ p ∈ R, p ∈ R2) ∧ Cx cs l ∈ R2 ∧ H2 = .blk br [.slice A xs.length c, .int .i64 (a' : Int)] 100 :: .row v 115 18 i cs :: H ∧ a1 ≤ a' ∧ a' ≤ xs.length ∧ kV d l k a' = gO d n a1) n eE ⟨0, a1, .slice none 0 0, [], [], by omega, rfl, rfl, (fun _ h => List.mem_cons_of_mem _ h), List.mem_cons_self, rfl, Nat.le_refl _, by omega, hY d n a1⟩ ?_
  rintro k j' H2 R2 ⟨i, a', v, cs, l, hik, h7, h4, hR2, hcx, hH2, haa, ha', hacc⟩
  subst hH2
  have hmx := hR2 _ hm
  refine cQ (by simp only [dX, List.foldl_cons, List.foldl_nil, List.set_cons_succ, List.set_cons_zero, h7, h4]; rfl) ?_
  rcases Nat.lt_or_ge i n with hlt | hge
  · obtain ⟨k', rfl⟩ : ∃ k', k = k' + 1 := ⟨k - 1, by omega⟩
    repeat' (first | (apply aF) | (apply aA) | (apply aT) | (apply bE) | (apply aK; exact rfl) | (apply aG) | (apply aD) | (apply aU; exact rfl; ((refine bM rfl rfl (fun h => ?_) (fun h => ?_))) <;> (first | (exfalso; omega) | refine aB ?_)) | (refine aE rfl rfl ?_; ((refine aH ?_)); refine aB ?_))
    refine nQ (L1 := first) (L2 := []) rfl rfl (by simp) hone (by omega) ha' hmx (fun x a2 y hd h3 h4 hok => ?_) (fun e he => ?_)
    rotate_left
    · skip
      repeat' (first | (apply aL) | (apply bY))
      exact aN (cH H R (fun w hs => hs.weaken bU hR2) (hp e (by unfold dK; rw [hn]; simp only; rw [← hacc]; exact jF he)))
    refine aB ?_
    refine bG rfl rfl ?_
    refine eW (cs := Unp.cs x y) (by decide) (hval x y) (by rw [UnpL.len, hsz]) (fun b => ?_)
    refine aB ?_
    refine bG rfl rfl ?_
    refine cY 2 0 (news := Unp.cs x y) rfl rfl rfl rfl (by decide) (by rw [UnpL.len, hsz]) (UnpL.one x y) (by omega) (by omega) (fun v' => ?_)
    refine aB ?_
    refine iG (Cx (cs ++ Unp.cs x y) (l ++ [x])) (fun s hR => eN (hR (Cx cs l) (List.mem_append_right _ hcx)) (Unp.re hok (fun p hp => hR p (List.mem_append_left _ hp)))) ?_
    refine eF (.blk br [.slice A xs.length c, .int .i64 (a2 : Int)] 100 :: .row v' 115 18 (i + 1) (cs ++ Unp.cs x y) :: H) (Cx (cs ++ Unp.cs x y) (l ++ [x]) :: R) (fun w hs => hs.weaken (List.Sublist.cons _ (List.Sublist.refl _)) (bL List.mem_cons_self (fun p hp => List.mem_cons_of_mem _ (List.mem_append_right _ (hR2 p hp))))) ?_
    repeat' (first | (apply aA) | (apply aG) | (apply aD) | (apply bP) | (apply aU; exact rfl; ((refine bI rfl rfl (by omega) (by omega) ?_)); refine aB ?_) | (refine aE rfl rfl ?_; ((first | refine aH ?_ | refine aX ?_)); refine aB ?_))
    exact cE k' _ (Cx (cs ++ Unp.cs x y) (l ++ [x]) :: R) (by omega) eE ⟨i + 1, a2, v', cs ++ Unp.cs x y, l ++ [x], by omega, rfl, rfl, (fun _ h => List.mem_cons_of_mem _ h), List.mem_cons_self, rfl, by omega, h4, by rw [← hacc]; exact (gH hd).symm⟩ (fun w hs => hs)
  · obtain rfl : k = 0 := by omega
    repeat' (first | (apply aF) | (apply aA) | (apply bN) | (apply bV) | (apply aI; exact rfl) | (apply aG) | (apply aD) | (apply aS) | (apply aR) | (apply aU; exact rfl; ((refine bM rfl rfl (fun h => ?_) (fun h => ?_))) <;> (first | (exfalso; omega) | refine aB ?_)) | (refine aE rfl rfl ?_; ((first | refine aH ?_ | refine aX ?_)); refine aB ?_))
    refine dW 1 rfl hsz (by decide) hcx (fun A' c' hv => ?_)
    refine eO (fun w hs => dC hs List.mem_cons_self) (fun hb => ?_)
    refine bC (.inl rfl) (dM rfl (bS (v := .slice A' l.length c') (by rw [← hv]; rfl))) (eI _ (Sl (.slice A' l.length c') l :: R) (fun w hs => hs.weaken (List.Sublist.refl _) (bL List.mem_cons_self (fun p hp => List.mem_cons_of_mem _ (hR2 p hp)))) ?_)
    exact hk l a' (A', c') (by unfold dK; rw [hn]; simp only; rw [← hacc, iB]) (by omega) ha' hb
end Go.Proofs.YtggdljhmbckpmaaGreat
namespace Go.Proofs.YtggdljhmbckpmaaGreat
open Go Go.RowKit
set_option maxRecDepth 100000
set_option maxHeartbeats 1600000

theorem Rr.up {P : Program} {w0 : World} {f : FuncId} {args : List Value} {br : Nat} {A : Option Addr} {c : Nat} {xs : List UInt8} {m m' : Nat} {α : Type} [Rep α] [Unp α] {d : Dc α} {val : α → Unp.Y α → Value} (h : Rr P w0 f args br A c xs m d val) (hm : m ≤ m') : Rr P w0 f args br A c xs m' d val :=
  fun H R K KP a ha => h H R K KP a (by omega)
abbrev nH {α : Type} [Rep α] [Unp α] (x : α) (y : Unp.Y α) : Value := .agg (Unp.cs x y).toArray
theorem fQ {α : Type} [Rep α] [Unp α] (x : α) (y : Unp.Y α) : (nH x y).cells = (Unp.cs x y).toArray := rfl
section
variable {F : Fence} {n : Nat} {P : Program} {w0 : World} {D : List Deferred} {ops : Array Oper} {Q : Exit → Act → World → Prop} {rest : List Oper} {E : List Value} {H : List Hp} {R : List MP}
theorem jG {co : Code} {x y : Hp} (k : TC F n P w0 D co Q E (y :: x :: H) R) : TC F n P w0 D co Q E (x :: y :: H) R := dT _ _ (fun w hs => hs.perm (List.Perm.swap _ _ _)) k
/-- A number, a text, a truth: nothing else is learned. -/
theorem k7 [Wd F] {dst : Option Tmp} {f : FuncId} {l : List Operand} {at_ : Array TypeId} {ty : TypeId} {pos : String} {aft : Array Edge} {g : Option (Nat × Bool)} {args : List Value} {br : Nat} {A : Option Addr} {c : Nat} {xs : List UInt8} {a : Nat} {d : Dc ByteArray}
    (hw : Region.wanted ⟨dst, .call ⟨.value (.func f), l.toArray, at_⟩, ty, pos, aft, g⟩ (yielded ops E.toArray) = true) (hA : l.map (ev E) = args) [FnOk P f] (h : Rr P w0 f args br A c xs 0 d (fun s _ => .string s)) (hax : a ≤ xs.length) (hm : Sl (.slice A xs.length c) xs ∈ R)
    (hk : ∀ x a', d a = .ok (x, a') → a ≤ a' → a' ≤ xs.length → x.size ≤ 9223372036854775807 → T F n P w0 D ops Q rest (dP E dst (.string x)) (.blk br [.slice A xs.length c, .int .i64 (a' : Int)] 100 :: H) R)
    (hp : ∀ e : Nat, d a = .error e → En w0 D Q (.panic (rf e)) E H R) : T F n P w0 D ops Q (⟨dst, .call ⟨.value (.func f), l.toArray, at_⟩, ty, pos, aft, g⟩ :: rest) E (.blk br [.slice A xs.length c, .int .i64 (a : Int)] 100 :: H) R :=
  sF hw hA h (Nat.zero_le _) hax hm (fun x a' y hd h1 h2 hok => hk x a' hd h1 h2 hok) hp
theorem uX [Wd F] {dst : Option Tmp} {f : FuncId} {l : List Operand} {at_ : Array TypeId} {ty : TypeId} {pos : String} {aft : Array Edge} {g : Option (Nat × Bool)} {args : List Value} {br : Nat} {A : Option Addr} {c : Nat} {xs : List UInt8} {a : Nat} {d : Dc Bool}
    (hw : Region.wanted ⟨dst, .call ⟨.value (.func f), l.toArray, at_⟩, ty, pos, aft, g⟩ (yielded ops E.toArray) = true) (hA : l.map (ev E) = args) [FnOk P f] (h : Rr P w0 f args br A c xs 0 d (fun s _ => .bool s)) (hax : a ≤ xs.length) (hm : Sl (.slice A xs.length c) xs ∈ R)
    (hk : ∀ x a', d a = .ok (x, a') → a ≤ a' → a' ≤ xs.length → T F n P w0 D ops Q rest (dP E dst (.bool x)) (.blk br [.slice A xs.length c, .int .i64 (a' : Int)] 100 :: H) R)
    (hp : ∀ e : Nat, d a = .error e → En w0 D Q (.panic (rf e)) E H R) : T F n P w0 D ops Q (⟨dst, .call ⟨.value (.func f), l.toArray, at_⟩, ty, pos, aft, g⟩ :: rest) E (.blk br [.slice A xs.length c, .int .i64 (a : Int)] 100 :: H) R :=
  sF hw hA h (Nat.zero_le _) hax hm (fun x a' y hd h1 h2 hok => hk x a' hd h1 h2) hp
/-- A list. -/
theorem iM [Wd F] {dst : Option Tmp} {f : FuncId} {l : List Operand} {at_ : Array TypeId} {ty : TypeId} {pos : String} {aft : Array Edge} {g : Option (Nat × Bool)} {args : List Value} {br : Nat} {A : Option Addr} {c : Nat} {xs : List UInt8} {m a : Nat} {α : Type} [Rep α] {d : Dc (List α)}
    (hw : Region.wanted ⟨dst, .call ⟨.value (.func f), l.toArray, at_⟩, ty, pos, aft, g⟩ (yielded ops E.toArray) = true) (hA : l.map (ev E) = args) [FnOk P f] (h : Rr P w0 f args br A c xs m d vN) (hma : m ≤ a) (hax : a ≤ xs.length) (hm : Sl (.slice A xs.length c) xs ∈ R)
    (hk : ∀ (x : List α) a' A1 c1, d a = .ok (x, a') → a ≤ a' → a' ≤ xs.length → (x.length ≤ c1 ∧ c1 ≤ dY) → T F n P w0 D ops Q rest (dP E dst (.slice A1 x.length c1)) (.blk br [.slice A xs.length c, .int .i64 (a' : Int)] 100 :: H) (Sl (.slice A1 x.length c1) x :: R))
    (hp : ∀ e : Nat, d a = .error e → En w0 D Q (.panic (rf e)) E H R) : T F n P w0 D ops Q (⟨dst, .call ⟨.value (.func f), l.toArray, at_⟩, ty, pos, aft, g⟩ :: rest) E (.blk br [.slice A xs.length c, .int .i64 (a : Int)] 100 :: H) R :=
  sF hw hA h hma hax hm (fun x a' y hd h1 h2 hok => hk x a' y.1 y.2 hd h1 h2 hok) hp
/-- A term, a type. -/
theorem T_rdtm [Wd F] {dst : Option Tmp} {f : FuncId} {l : List Operand} {at_ : Array TypeId} {ty : TypeId} {pos : String} {aft : Array Edge} {g : Option (Nat × Bool)} {args : List Value} {br : Nat} {A : Option Addr} {c : Nat} {xs : List UInt8} {m a : Nat} {d : Dc Tm}
    (hw : Region.wanted ⟨dst, .call ⟨.value (.func f), l.toArray, at_⟩, ty, pos, aft, g⟩ (yielded ops E.toArray) = true) (hA : l.map (ev E) = args) [FnOk P f] (h : Rr P w0 f args br A c xs m d nH) (hma : m ≤ a) (hax : a ≤ xs.length) (hm : Sl (.slice A xs.length c) xs ∈ R)
    (hk : ∀ k i nm (x : List Tm) a' A1 c1, d a = .ok (.mk k i nm x, a') → a ≤ a' → a' ≤ xs.length → (dD k ∧ dD i ∧ nm.size ≤ 9223372036854775807 ∧ x.length ≤ 9223372036854775807) → T F n P w0 D ops Q rest (dP E dst (.agg #[.int .i64 k, .int .i64 i, .string nm, .slice A1 x.length c1])) (.blk br [.slice A xs.length c, .int .i64 (a' : Int)] 100 :: H) (Sl (.slice A1 x.length c1) x :: R))
    (hp : ∀ e : Nat, d a = .error e → En w0 D Q (.panic (rf e)) E H R) : T F n P w0 D ops Q (⟨dst, .call ⟨.value (.func f), l.toArray, at_⟩, ty, pos, aft, g⟩ :: rest) E (.blk br [.slice A xs.length c, .int .i64 (a : Int)] 100 :: H) R :=
  sF hw hA h hma hax hm (fun x a' y hd h1 h2 hok => by
    obtain ⟨k, i, nm, x⟩ := x
    exact hk k i nm x a' y.1 y.2 hd h1 h2 hok) hp
theorem T_rdtp [Wd F] {dst : Option Tmp} {f : FuncId} {l : List Operand} {at_ : Array TypeId} {ty : TypeId} {pos : String} {aft : Array Edge} {g : Option (Nat × Bool)} {args : List Value} {br : Nat} {A : Option Addr} {c : Nat} {xs : List UInt8} {m a : Nat} {d : Dc Tp}
    (hw : Region.wanted ⟨dst, .call ⟨.value (.func f), l.toArray, at_⟩, ty, pos, aft, g⟩ (yielded ops E.toArray) = true) (hA : l.map (ev E) = args) [FnOk P f] (h : Rr P w0 f args br A c xs m d nH) (hma : m ≤ a) (hax : a ≤ xs.length) (hm : Sl (.slice A xs.length c) xs ∈ R)
    (hk : ∀ nm (x : List Tp) a' A1 c1, d a = .ok (.mk nm x, a') → a ≤ a' → a' ≤ xs.length → (nm.size ≤ 9223372036854775807 ∧ x.length ≤ 9223372036854775807) → T F n P w0 D ops Q rest (dP E dst (.agg #[.string nm, .slice A1 x.length c1])) (.blk br [.slice A xs.length c, .int .i64 (a' : Int)] 100 :: H) (Sl (.slice A1 x.length c1) x :: R))
    (hp : ∀ e : Nat, d a = .error e → En w0 D Q (.panic (rf e)) E H R) : T F n P w0 D ops Q (⟨dst, .call ⟨.value (.func f), l.toArray, at_⟩, ty, pos, aft, g⟩ :: rest) E (.blk br [.slice A xs.length c, .int .i64 (a : Int)] 100 :: H) R :=
  sF hw hA h hma hax hm (fun x a' y hd h1 h2 hok => by
    obtain ⟨nm, x⟩ := x
    exact hk nm x a' y.1 y.2 hd h1 h2 hok) hp
/-- What is known of a variable. -/
theorem T_rdva [Wd F] {dst : Option Tmp} {f : FuncId} {l : List Operand} {at_ : Array TypeId} {ty : TypeId} {pos : String} {aft : Array Edge} {g : Option (Nat × Bool)} {args : List Value} {br : Nat} {A : Option Addr} {c : Nat} {xs : List UInt8} {m a : Nat} {d : Dc kZ}
    (hw : Region.wanted ⟨dst, .call ⟨.value (.func f), l.toArray, at_⟩, ty, pos, aft, g⟩ (yielded ops E.toArray) = true) (hA : l.map (ev E) = args) [FnOk P f] (h : Rr P w0 f args br A c xs m d nH) (hma : m ≤ a) (hax : a ≤ xs.length) (hm : Sl (.slice A xs.length c) xs ∈ R)
    (hk : ∀ lv tn (tx : List Tp) bo k i nm (x : List Tm) a' A1 c1 A2 c2, d a = .ok ((lv, .mk tn tx, bo, .mk k i nm x), a') → a ≤ a' → a' ≤ xs.length → (dD lv ∧ (tn.size ≤ 9223372036854775807 ∧ tx.length ≤ 9223372036854775807) ∧ True ∧ (dD k ∧ dD i ∧ nm.size ≤ 9223372036854775807 ∧ x.length ≤ 9223372036854775807)) → T F n P w0 D ops Q rest (dP E dst (.agg #[.int .i64 lv, .string tn, .slice A1 tx.length c1, .bool bo, .int .i64 k, .int .i64 i, .string nm, .slice A2 x.length c2])) (.blk br [.slice A xs.length c, .int .i64 (a' : Int)] 100 :: H) (Sl (.slice A1 tx.length c1) tx :: Sl (.slice A2 x.length c2) x :: R))
    (hp : ∀ e : Nat, d a = .error e → En w0 D Q (.panic (rf e)) E H R) : T F n P w0 D ops Q (⟨dst, .call ⟨.value (.func f), l.toArray, at_⟩, ty, pos, aft, g⟩ :: rest) E (.blk br [.slice A xs.length c, .int .i64 (a : Int)] 100 :: H) R :=
  sF hw hA h hma hax hm (fun x a' y hd h1 h2 hok => by
    obtain ⟨lv, ⟨tn, tx⟩, bo, ⟨k, i, nm, x⟩⟩ := x
    obtain ⟨u1, ⟨A1, c1⟩, u2, ⟨A2, c2⟩⟩ := y
    exact hk lv tn tx bo k i nm x a' A1 c1 A2 c2 hd h1 h2 hok) hp
end
theorem pX {w0 : World} (br : Nat) (A : Option Addr) (c : Nat) (xs : List UInt8) (hx : xs.length ≤ 250000) : Rr Tryz.prog w0 89 [.pointer (some ⟨br, 0, none⟩)] br A c xs 0 (dK xs (eH xs)) vN := by
  intro H R K KP a hma hax hm hk hp
  refine cP Tryz.func89 rfl Tryz.ntmps89 eZ ?_
  repeat' first
    | (apply aF)
    | (apply aA)
    | (apply aT)
    | (apply bN)
    | (apply bE)
    | (apply bV)
    | (apply aK; exact rfl)
    | (apply aI; exact rfl)
    | (apply aG)
    | (apply aD)
    | (apply bO)
    | (apply aS)
    | (apply aL)
    | (apply bP)
    | (apply dO)
    | (apply bY)
    | (apply aR)
    | (apply eY; exact rfl)
    | (apply aP; exact rfl; (first | refine aM (i := 0) rfl rfl rfl ?_ | refine aM (i := 1) rfl rfl rfl ?_ | refine aM (i := 2) rfl rfl rfl ?_ | refine aM (i := 3) rfl rfl rfl ?_ | refine aM (i := 4) rfl rfl rfl ?_ | refine aM (i := 5) rfl rfl rfl ?_ | refine aQ rfl cJ rfl ?_ | refine aZ rfl cJ rfl ?_ | refine aQ rfl aV rfl ?_ | refine aZ rfl aV rfl ?_); refine aB ?_)
    | (apply aU; exact rfl; (first | refine bI rfl rfl (by omega) (by omega) ?_ | refine eR rfl rfl (by omega) (by omega) ?_ | refine iA rfl rfl (by omega) (by omega) ?_ | refine mE rfl rfl (by omega) (by omega) (by omega) ?_ | refine mD rfl rfl (by omega) (by omega) ?_); refine aB ?_)
    | (apply aU; exact rfl; (first | refine bM rfl rfl (fun h => ?_) (fun h => ?_) | refine mM rfl rfl (fun h => ?_) (fun h => ?_) | refine fF rfl rfl (fun h => ?_) (fun h => ?_) | refine jJ rfl rfl (fun h => ?_) (fun h => ?_) | refine fS rfl rfl (fun h => ?_) (fun h => ?_) | refine eL rfl rfl (fun h => ?_) (fun h => ?_)) <;> first | (exfalso; omega) | refine aB ?_)
    | (refine aE rfl rfl ?_; (first | refine aH ?_ | refine aX ?_ | refine bT rfl eJ ?_ | refine cI rfl eJ ?_ | refine aW rfl ?_ | refine aC rfl ?_ | refine bQ rfl ?_ | refine kK rfl ?_ | refine cD rfl rfl ?_ | refine dE rfl ?_ | refine cM gP gP ?_ | refine dN gI ?_ | refine eX rfl ?_); refine aB ?_)
    | (refine cR rfl ?_; refine aB ?_)
    | (refine bG rfl rfl ?_; (first | refine eB cW (fun b => ?_) | refine bK cW (fun b => ?_) | refine bH (by decide) fD rfl (fun b => ?_)); refine aB ?_)
  refine iM rfl rfl (i7 rfl br A c xs hx 133 [.pointer (some ⟨br, 0, none⟩)] 0 (eH xs) (fun n _ => .int .i64 n) (fun _ _ => rfl) ((rP br A c xs hx).up (by omega))) hma hax hm (fun l a' A1 c1 hd h1 h2 hok => ?_) (fun e he => ?_)
  rotate_left
  · skip
    repeat' first
      | (apply aF)
      | (apply aA)
      | (apply aT)
      | (apply bN)
      | (apply bE)
      | (apply bV)
      | (apply aK; exact rfl)
      | (apply aI; exact rfl)
      | (apply aG)
      | (apply aD)
      | (apply bO)
      | (apply aS)
      | (apply aL)
      | (apply bP)
      | (apply dO)
      | (apply bY)
      | (apply aR)
      | (apply eY; exact rfl)
      | (apply aP; exact rfl; (first | refine aM (i := 0) rfl rfl rfl ?_ | refine aM (i := 1) rfl rfl rfl ?_ | refine aM (i := 2) rfl rfl rfl ?_ | refine aM (i := 3) rfl rfl rfl ?_ | refine aM (i := 4) rfl rfl rfl ?_ | refine aM (i := 5) rfl rfl rfl ?_ | refine aQ rfl cJ rfl ?_ | refine aZ rfl cJ rfl ?_ | refine aQ rfl aV rfl ?_ | refine aZ rfl aV rfl ?_); refine aB ?_)
      | (apply aU; exact rfl; (first | refine bI rfl rfl (by omega) (by omega) ?_ | refine eR rfl rfl (by omega) (by omega) ?_ | refine iA rfl rfl (by omega) (by omega) ?_ | refine mE rfl rfl (by omega) (by omega) (by omega) ?_ | refine mD rfl rfl (by omega) (by omega) ?_); refine aB ?_)
      | (apply aU; exact rfl; (first | refine bM rfl rfl (fun h => ?_) (fun h => ?_) | refine mM rfl rfl (fun h => ?_) (fun h => ?_) | refine fF rfl rfl (fun h => ?_) (fun h => ?_) | refine jJ rfl rfl (fun h => ?_) (fun h => ?_) | refine fS rfl rfl (fun h => ?_) (fun h => ?_) | refine eL rfl rfl (fun h => ?_) (fun h => ?_)) <;> first | (exfalso; omega) | refine aB ?_)
      | (refine aE rfl rfl ?_; (first | refine aH ?_ | refine aX ?_ | refine bT rfl eJ ?_ | refine cI rfl eJ ?_ | refine aW rfl ?_ | refine aC rfl ?_ | refine bQ rfl ?_ | refine kK rfl ?_ | refine cD rfl rfl ?_ | refine dE rfl ?_ | refine cM gP gP ?_ | refine dN gI ?_ | refine eX rfl ?_); refine aB ?_)
      | (refine cR rfl ?_; refine aB ?_)
      | (refine bG rfl rfl ?_; (first | refine eB cW (fun b => ?_) | refine bK cW (fun b => ?_) | refine bH (by decide) fD rfl (fun b => ?_)); refine aB ?_)
    exact aN (cH H R (fun w hs => hs) (hp e he))
  refine aB ?_
  repeat' first
    | (apply aF)
    | (apply aA)
    | (apply aT)
    | (apply bN)
    | (apply bE)
    | (apply bV)
    | (apply aK; exact rfl)
    | (apply aI; exact rfl)
    | (apply aG)
    | (apply aD)
    | (apply bO)
    | (apply aS)
    | (apply aL)
    | (apply bP)
    | (apply dO)
    | (apply bY)
    | (apply aR)
    | (apply eY; exact rfl)
    | (apply aP; exact rfl; (first | refine aM (i := 0) rfl rfl rfl ?_ | refine aM (i := 1) rfl rfl rfl ?_ | refine aM (i := 2) rfl rfl rfl ?_ | refine aM (i := 3) rfl rfl rfl ?_ | refine aM (i := 4) rfl rfl rfl ?_ | refine aM (i := 5) rfl rfl rfl ?_ | refine aQ rfl cJ rfl ?_ | refine aZ rfl cJ rfl ?_ | refine aQ rfl aV rfl ?_ | refine aZ rfl aV rfl ?_); refine aB ?_)
    | (apply aU; exact rfl; (first | refine bI rfl rfl (by omega) (by omega) ?_ | refine eR rfl rfl (by omega) (by omega) ?_ | refine iA rfl rfl (by omega) (by omega) ?_ | refine mE rfl rfl (by omega) (by omega) (by omega) ?_ | refine mD rfl rfl (by omega) (by omega) ?_); refine aB ?_)
    | (apply aU; exact rfl; (first | refine bM rfl rfl (fun h => ?_) (fun h => ?_) | refine mM rfl rfl (fun h => ?_) (fun h => ?_) | refine fF rfl rfl (fun h => ?_) (fun h => ?_) | refine jJ rfl rfl (fun h => ?_) (fun h => ?_) | refine fS rfl rfl (fun h => ?_) (fun h => ?_) | refine eL rfl rfl (fun h => ?_) (fun h => ?_)) <;> first | (exfalso; omega) | refine aB ?_)
    | (refine aE rfl rfl ?_; (first | refine aH ?_ | refine aX ?_ | refine bT rfl eJ ?_ | refine cI rfl eJ ?_ | refine aW rfl ?_ | refine aC rfl ?_ | refine bQ rfl ?_ | refine kK rfl ?_ | refine cD rfl rfl ?_ | refine dE rfl ?_ | refine cM gP gP ?_ | refine dN gI ?_ | refine eX rfl ?_); refine aB ?_)
    | (refine cR rfl ?_; refine aB ?_)
    | (refine bG rfl rfl ?_; (first | refine eB cW (fun b => ?_) | refine bK cW (fun b => ?_) | refine bH (by decide) fD rfl (fun b => ?_)); refine aB ?_)
  exact bC (.inl rfl) (dM rfl (bS rfl)) (eI _ (Sl (.slice A1 l.length c1) l :: R) (fun w hs => hs) (hk l a' (A1, c1) hd h1 h2 hok))
end Go.Proofs.YtggdljhmbckpmaaGreat
