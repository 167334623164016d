/- The reference's reader: choices: walks, printed by gen_vf.py. -/
import Derived.Test.YtggdljhmbckpmaaGreatVB
set_option linter.unusedVariables false
set_option linter.unusedSimpArgs false
namespace Go.Proofs.YtggdljhmbckpmaaGreat
open Go Go.RowKit
set_option maxRecDepth 100000
set_option maxHeartbeats 6400000

theorem i8 {w0 : World} (br : Nat) (A : Option Addr) (c : Nat) (xs : List UInt8) (hx : xs.length ≤ 250000) : Rf Tryz.prog w0 107 [.pointer (some ⟨br, 0, none⟩)] br A c xs 0 (qT xs) nH := by
  intro H R K a b0 o hma hax hm hk
  refine bX Tryz.func107 rfl Tryz.ntmps107 eZ ?_
  apply aF; apply aA
  repeat' ((refine bG rfl rfl ?_; ((refine bK cW (fun b => ?_))); refine aB ?_))
  apply aG; apply aD
  revert b
  intro bz
  apply aF; apply aA
  repeat' ((refine bG rfl rfl ?_; ((refine bK cW (fun b => ?_))); refine aB ?_))
  apply aG; apply aD
  revert b
  intro bt
  refine mT ?_
  repeat' (first | (apply aF) | (apply aA) | (refine aE rfl rfl ?_; ((refine aH ?_)); refine aB ?_))
  refine fK rfl rfl (dR br A c xs hx) (fun _ => Nat.zero_le _) hax aV (fun x1 a1 b1 o1 h1 le1 hle1 ok1 => ?_)
  refine aB ?_
  repeat' (first | (apply aF) | (apply aA) | (apply aG) | (apply aD) | (apply bD; exact rfl; ((refine aO (i := 1) rfl cW rfl (by rfl) (by simp) (by simp [Value.oneCell']) ?_)); refine aB ?_; refine cA ?_) | (refine aE rfl rfl ?_; ((first | refine aH ?_ | refine aC rfl ?_)); refine aB ?_))
  refine kD rfl rfl hx hle1 aV (fun n2 a2' b2' o2' ho2 le2' hz2 hp2 hle2' => ?_)
  refine aB ?_
  repeat' ((refine aE rfl rfl ?_; ((refine aX ?_)); refine aB ?_))
  apply aG; apply aD
  refine iZ [5, 6, 12, 13, 14, 15, 16, 17, 18, 19, 20, 21, 22, 23, 24, 25, 26, 27, 28, 29, 30, 31] (fun j H' R' => ∃ (a' o' : Nat) (b' : Bool) (A' : Option Addr) (c' : Nat) (l : List qS), H' = .blk br (gD A c xs a' b' o') 105 :: .blk bt [.int .i64 x1, (.slice A' l.length c'), .slice none 0 0, .int .i64 0, .int .i64 0, .int .i64 0, .int .i64 0, .int .i64 0, .int .i64 0, .int .i64 0, .bool false, .slice none 0 0, .slice none 0 0, .int .i64 0, .int .i64 0, .int .i64 0, .int .i64 0, .int .i64 0] 115 :: .blk bz [.int .i64 0, .slice none 0 0, .slice none 0 0, .int .i64 0, .int .i64 0, .int .i64 0, .int .i64 0, .int .i64 0, .int .i64 0, .int .i64 0, .bool false, .slice none 0 0, .slice none 0 0, .int .i64 0, .int .i64 0, .int .i64 0, .int .i64 0, .int .i64 0] 115 :: H ∧ R' = Sl (.slice A' l.length c') l :: R ∧ Out xs (dK xs (tyD xs)) ⟨a1, b1, o1⟩ l ⟨a', b', o'⟩ ∧ a1  ≤ a' ∧ a' ≤ xs.length ∧ (l.length ≤ c' ∧ c' ≤ dY)) ?_ ?_
  · skip
    repeat' (first | (apply aF) | (apply aA) | (apply aT) | (apply aG) | (apply aD) | (refine aE rfl rfl ?_; ((refine aX ?_)); refine aB ?_))
    refine dT (.blk br (gD A c xs a2' b2' o2') 105 :: .row (.slice none 0 0) 207 3 0 [] :: .blk bt [.int .i64 x1, .slice none 0 0, .slice none 0 0, .int .i64 0, .int .i64 0, .int .i64 0, .int .i64 0, .int .i64 0, .int .i64 0, .int .i64 0, .bool false, .slice none 0 0, .slice none 0 0, .int .i64 0, .int .i64 0, .int .i64 0, .int .i64 0, .int .i64 0] 115 :: .blk bz [.int .i64 0, .slice none 0 0, .slice none 0 0, .int .i64 0, .int .i64 0, .int .i64 0, .int .i64 0, .int .i64 0, .int .i64 0, .int .i64 0, .bool false, .slice none 0 0, .slice none 0 0, .int .i64 0, .int .i64 0, .int .i64 0, .int .i64 0, .int .i64 0] 115 :: H) (Cx [] ([] : List qS) :: (R)) (fun w hs => ((hs.nilrow 207 3).perm (List.Perm.swap _ _ _)).learn (Cx [] ([] : List qS)) (fun s _ => fT s)) ?_
    refine cK [5, 6, 12, 13, 14, 15, 16, 17, 18, 19, 20, 21, 22, 23, 24, 25, 26, 27, 28, 29, 30, 31] (fun k j H2 R2 => ∃ (i a' o' : Nat) (b' : Bool) (A0 : Option Addr) (c0 : Nat) (cs : List Value) (l : List qS), i + k = n2 ∧ j 5 = .int .i64 (i : Int) ∧ (∀ p ∈ (R), p ∈ R2) ∧ Cx cs l ∈ R2 ∧ H2 = .blk br (gD A c xs a' b' o') 105 :: .row (.slice A0 i c0) 207 3 i cs :: .blk bt [.int .i64 x1, .slice A0 i c0, .slice none 0 0, .int .i64 0, .int .i64 0, .int .i64 0, .int .i64 0, .int .i64 0, .int .i64 0, .int .i64 0, .bool false, .slice none 0 0, .slice none 0 0, .int .i64 0, .int .i64 0, .int .i64 0, .int .i64 0, .int .i64 0] 115 :: .blk bz [.int .i64 0, .slice none 0 0, .slice none 0 0, .int .i64 0, .int .i64 0, .int .i64 0, .int .i64 0, .int .i64 0, .int .i64 0, .int .i64 0, .bool false, .slice none 0 0, .slice none 0 0, .int .i64 0, .int .i64 0, .int .i64 0, .int .i64 0, .int .i64 0] 115 :: H ∧ a2' ≤ a' ∧ a' ≤ xs.length ∧ l.length = i ∧ Lp (tyD xs) n2 a2' b2' o2' k l a' b' o') n2 eE ⟨0, a2', o2', b2', none, 0, [], [], by omega, rfl, (fun _ h => List.mem_cons_of_mem _ h), List.mem_cons_self, rfl, Nat.le_refl _, by omega, rfl, Lp.start _ _ _ _ _⟩ ?_
    rintro k j' H2 R2 ⟨i, a', o', b', A0, c0, cs, l, hik, hji, hR2, hcx, hH2, haa, ha', hli, hlp⟩
    subst hH2
    have hmx := hR2 _ (show Sl (.slice A xs.length c) xs ∈ _ from aV)
    refine cQ (by simp only [dX, List.foldl_cons, List.foldl_nil, List.set_cons_succ, List.set_cons_zero, hji]; rfl) ?_
    rcases Nat.lt_or_ge i n2 with hlt | hge
    rotate_left
    · obtain rfl : k = 0 := by omega
      have hdone := Lp.done ho2 hlp (.inr rfl) haa ha'
      repeat' (first | (apply aF) | (apply aA) | (apply bV) | (apply aI; exact rfl) | (apply aG) | (apply aD) | (apply aS) | (apply aR) | (apply aU; exact rfl; ((refine bM rfl rfl (fun h => ?_) (fun h => ?_))) <;> (first | (exfalso; omega) | refine aB ?_)) | (refine aE rfl rfl ?_; ((first | refine aH ?_ | refine cI rfl eJ ?_)); refine aB ?_) | (refine cR rfl ?_; refine aB ?_))
      subst hli
      refine dW 1 rfl rfl (by decide) hcx (fun A' c' hv => ?_)
      cases hv
      refine eO (fun w hs => dC hs List.mem_cons_self) (fun hb => ?_)
      exact fM _ (Sl (.slice A0 l.length c0) l :: R) eE ⟨a', o', _, A0, c0, l, rfl, rfl, hdone, by omega, ha', hb⟩ (fun w hs => hs.weaken (List.Sublist.refl _) (bL List.mem_cons_self (fun p hp => List.mem_cons_of_mem _ (hR2 p hp))))
    cases b' with
    | true =>
      have hdone := Lp.done ho2 hlp (.inl rfl) haa ha'
      repeat' (first | (apply aF) | (apply aA) | (apply bV) | (apply aI; exact rfl) | (apply aG) | (apply aD) | (apply aS) | (apply aR) | (apply aP; exact rfl; ((refine aM (i := 0) rfl rfl rfl ?_)); refine aB ?_) | (apply aU; exact rfl; ((refine bM rfl rfl (fun h => ?_) (fun h => ?_))) <;> (first | (exfalso; omega) | refine aB ?_)) | (refine aE rfl rfl ?_; ((first | refine aH ?_ | refine bT rfl eJ ?_ | refine aW rfl ?_ | refine aC rfl ?_ | refine dE rfl ?_)); refine aB ?_))
      subst hli
      refine dW 1 rfl rfl (by decide) hcx (fun A' c' hv => ?_)
      cases hv
      refine eO (fun w hs => dC hs List.mem_cons_self) (fun hb => ?_)
      exact fM _ (Sl (.slice A0 l.length c0) l :: R) eE ⟨a', o', _, A0, c0, l, rfl, rfl, hdone, by omega, ha', hb⟩ (fun w hs => hs.weaken (List.Sublist.refl _) (bL List.mem_cons_self (fun p hp => List.mem_cons_of_mem _ (hR2 p hp))))
    | false =>
      obtain ⟨k', rfl⟩ : ∃ k', k = k' + 1 := ⟨k - 1, by omega⟩
      have hb1 := (hlp.ok rfl).1
      repeat' (first | (apply aF) | (apply aA) | (apply aT) | (apply bE) | (apply aK; exact rfl) | (apply aG) | (apply aD) | (apply aP; exact rfl; ((refine aM (i := 0) rfl rfl rfl ?_)); refine aB ?_) | (apply aU; exact rfl; ((refine bM rfl rfl (fun h => ?_) (fun h => ?_))) <;> (first | (exfalso; omega) | refine aB ?_)) | (refine aE rfl rfl ?_; ((first | refine aH ?_ | refine bT rfl eJ ?_ | refine aW rfl ?_ | refine aC rfl ?_ | refine dE rfl ?_)); refine aB ?_))
      refine pE rfl rfl ((try_f br A c xs hx).g (Nat.zero_le _)) (by omega) ha' hmx (fun x a2' b2' o2' y hd h3' h4' hok => ?_)
      refine aB ?_
      repeat' ((refine bG rfl rfl ?_; ((refine bK cW (fun b => ?_))); refine aB ?_))
      refine bG rfl rfl ?_
      refine aO (i := 0) (vs := Unp.cs x y) rfl rfl rfl (UnpL.len x y) (show 0 + 3 ≤ 3 by omega) (UnpL.one x y) ?_
      rw [eC (by rw [UnpL.len]; rfl)]
      refine aB ?_
      refine cA ?_
      repeat' (first | (refine aP rfl ?_; refine aM (i := 0) rfl rfl (cN (by rw [UnpL.len]; rfl)) ?_; refine aB ?_) | (refine bG rfl rfl ?_; refine eW (cs := Unp.cs x y) (by decide) rfl (by rw [UnpL.len]; rfl) (fun b9 => ?_); refine aB ?_) | (refine bG rfl rfl ?_; refine cY 3 0 (news := Unp.cs x y) rfl rfl rfl rfl (by decide) (by rw [UnpL.len]; rfl) (UnpL.one x y) (by omega) (by omega) (fun v' => ?_); refine aB ?_; refine cA ?_; refine gA 3 rfl (fun A9 c9 hv9 => ?_); subst hv9) | (apply aA) | (apply aG) | (apply aD) | (apply bP) | (apply aP; exact rfl; ((refine aM (i := 3) rfl rfl rfl ?_)); refine aB ?_) | (apply aU; exact rfl; ((refine bI rfl rfl (by omega) (by omega) ?_)); refine aB ?_) | (apply bD; exact rfl; ((refine aO (i := 4) rfl cW rfl (by rfl) (by simp) (by simp [Value.oneCell']) ?_)); refine aB ?_; refine cA ?_) | (refine aE rfl rfl ?_; ((first | refine aH ?_ | refine aX ?_ | refine aC rfl ?_)); refine aB ?_))
      exact cE k' (.blk br (gD A c xs a2' b2' o2') 105 :: .row (.slice A9 (i + 1) c9) 207 3 (i + 1) (cs ++ Unp.cs x y) :: .blk bt [.int .i64 x1, .slice A9 (i + 1) c9, .slice none 0 0, .int .i64 0, .int .i64 0, .int .i64 0, .int .i64 0, .int .i64 0, .int .i64 0, .int .i64 0, .bool false, .slice none 0 0, .slice none 0 0, .int .i64 0, .int .i64 0, .int .i64 0, .int .i64 0, .int .i64 0] 115 :: .blk bz [.int .i64 0, .slice none 0 0, .slice none 0 0, .int .i64 0, .int .i64 0, .int .i64 0, .int .i64 0, .int .i64 0, .int .i64 0, .int .i64 0, .bool false, .slice none 0 0, .slice none 0 0, .int .i64 0, .int .i64 0, .int .i64 0, .int .i64 0, .int .i64 0] 115 :: H) (Cx (cs ++ Unp.cs x y) (l ++ [x]) :: (R)) (by omega) eE ⟨i + 1, a2', o2', b2', A9, c9, cs ++ Unp.cs x y, l ++ [x], by omega, rfl, (fun _ h => List.mem_cons_of_mem _ h), List.mem_cons_self, rfl, by omega, h4', by simp [hli], hlp.step hd⟩ (fun w hs => (hs.learn (Cx (cs ++ Unp.cs x y) (l ++ [x])) (fun s hR => eN (hR (Cx cs l) (List.mem_append_right _ hcx)) (Unp.re hok (fun p hp => hR p (List.mem_append_left _ hp))))).weaken (.cons _ (.cons _ (List.Sublist.refl _))) (bL List.mem_cons_self (fun p hp => List.mem_cons_of_mem _ (List.mem_append_right _ (hR2 p hp)))))
  rintro j2 H2 R2 ⟨a2, o2, b2, A2, c2, x2, hH2, hR2, h2, le2, hle2, ok2⟩
  subst hH2 hR2
  refine cQ (by simp only [dX, List.foldl_cons, List.foldl_nil, List.set_cons_succ, List.set_cons_zero]; rfl) ?_
  repeat' (first | (apply aF) | (apply aA) | (refine aE rfl rfl ?_; ((refine aH ?_)); refine aB ?_))
  refine lW rfl rfl (pK br A c xs hx) (fun _ => Nat.zero_le _) hle2 aV (fun x3 a3 b3 o3 A3 c3 h3 le3 hle3 ok3 => ?_)
  refine aB ?_
  repeat' (first | (apply aF) | (apply aA) | (apply aG) | (apply aD) | (apply bD; exact rfl; ((refine aO (i := 1) rfl cW rfl (by rfl) (by simp) (by simp [Value.oneCell']) ?_)); refine aB ?_; refine cA ?_) | (refine aE rfl rfl ?_; ((first | refine aH ?_ | refine aC rfl ?_)); refine aB ?_))
  refine fK rfl rfl (dR br A c xs hx) (fun _ => Nat.zero_le _) hle3 aV (fun x4 a4 b4 o4 h4 qO hle4 ok4 => ?_)
  refine aB ?_
  repeat' (first | (apply aF) | (apply aA) | (apply aG) | (apply aD) | (apply bD; exact rfl; ((refine aO (i := 1) rfl cW rfl (by rfl) (by simp) (by simp [Value.oneCell']) ?_)); refine aB ?_; refine cA ?_) | (refine aE rfl rfl ?_; ((first | refine aH ?_ | refine aC rfl ?_)); refine aB ?_))
  refine fK rfl rfl (dR br A c xs hx) (fun _ => Nat.zero_le _) hle4 aV (fun x5 a5 b5 o5 h5 le5 hle5 ok5 => ?_)
  refine aB ?_
  repeat' (first | (apply aF) | (apply aA) | (apply aG) | (apply aD) | (apply bD; exact rfl; ((refine aO (i := 1) rfl cW rfl (by rfl) (by simp) (by simp [Value.oneCell']) ?_)); refine aB ?_; refine cA ?_) | (refine aE rfl rfl ?_; ((first | refine aH ?_ | refine aC rfl ?_)); refine aB ?_))
  refine fK rfl rfl (dR br A c xs hx) (fun _ => Nat.zero_le _) hle5 aV (fun x6 a6 b6 o6 h6 le6 hle6 ok6 => ?_)
  refine aB ?_
  repeat' (first | (apply aF) | (apply aA) | (apply aG) | (apply aD) | (apply bD; exact rfl; ((refine aO (i := 1) rfl cW rfl (by rfl) (by simp) (by simp [Value.oneCell']) ?_)); refine aB ?_; refine cA ?_) | (refine aE rfl rfl ?_; ((first | refine aH ?_ | refine aC rfl ?_)); refine aB ?_))
  refine fK rfl rfl (dR br A c xs hx) (fun _ => Nat.zero_le _) hle6 aV (fun x7 a7 b7 o7 h7 le7 hle7 ok7 => ?_)
  refine aB ?_
  repeat' (first | (apply aF) | (apply aA) | (apply aG) | (apply aD) | (apply bD; exact rfl; ((refine aO (i := 1) rfl cW rfl (by rfl) (by simp) (by simp [Value.oneCell']) ?_)); refine aB ?_; refine cA ?_) | (refine aE rfl rfl ?_; ((first | refine aH ?_ | refine aC rfl ?_)); refine aB ?_))
  refine fK rfl rfl (dR br A c xs hx) (fun _ => Nat.zero_le _) hle7 aV (fun x8 a8 b8 o8 h8 le8 hle8 ok8 => ?_)
  refine aB ?_
  repeat' (first | (apply aF) | (apply aA) | (apply aG) | (apply aD) | (apply bD; exact rfl; ((refine aO (i := 1) rfl cW rfl (by rfl) (by simp) (by simp [Value.oneCell']) ?_)); refine aB ?_; refine cA ?_) | (refine aE rfl rfl ?_; ((first | refine aH ?_ | refine aC rfl ?_)); refine aB ?_))
  refine fK rfl rfl (dR br A c xs hx) (fun _ => Nat.zero_le _) hle8 aV (fun x9 a9 b9 o9 h9 le9 hle9 ok9 => ?_)
  refine aB ?_
  repeat' (first | (apply aF) | (apply aA) | (apply aG) | (apply aD) | (apply bD; exact rfl; ((refine aO (i := 1) rfl cW rfl (by rfl) (by simp) (by simp [Value.oneCell']) ?_)); refine aB ?_; refine cA ?_) | (refine aE rfl rfl ?_; ((first | refine aH ?_ | refine aC rfl ?_)); refine aB ?_))
  refine fK rfl rfl (dR br A c xs hx) (fun _ => Nat.zero_le _) hle9 aV (fun x10 a10 b10 o10 h10 le10 hle10 ok10 => ?_)
  refine aB ?_
  repeat' (first | (apply aF) | (apply aA) | (apply aG) | (apply aD) | (apply bD; exact rfl; ((refine aO (i := 1) rfl cW rfl (by rfl) (by simp) (by simp [Value.oneCell']) ?_)); refine aB ?_; refine cA ?_) | (refine aE rfl rfl ?_; ((first | refine aH ?_ | refine aC rfl ?_)); refine aB ?_))
  refine uE rfl rfl (oQ br A c xs hx) (fun _ => Nat.zero_le _) hle10 aV (fun x11 a11 b11 o11 h11 le11 hle11 ok11 => ?_)
  refine aB ?_
  repeat' (first | (apply aF) | (apply aA) | (apply aG) | (apply aD) | (apply bD; exact rfl; ((refine aO (i := 1) rfl cW rfl (by rfl) (by simp) (by simp [Value.oneCell']) ?_)); refine aB ?_; refine cA ?_) | (refine aE rfl rfl ?_; ((first | refine aH ?_ | refine aC rfl ?_)); refine aB ?_))
  refine lW rfl rfl (jZ br A c xs hx) (fun _ => Nat.zero_le _) hle11 aV (fun x12 a12 b12 o12 A12 c12 h12 le12 hle12 ok12 => ?_)
  refine aB ?_
  repeat' (first | (apply aF) | (apply aA) | (apply aG) | (apply aD) | (apply bD; exact rfl; ((refine aO (i := 1) rfl cW rfl (by rfl) (by simp) (by simp [Value.oneCell']) ?_)); refine aB ?_; refine cA ?_) | (refine aE rfl rfl ?_; ((first | refine aH ?_ | refine aC rfl ?_)); refine aB ?_))
  refine lW rfl rfl (jZ br A c xs hx) (fun _ => Nat.zero_le _) hle12 aV (fun x13 a13 b13 o13 A13 c13 h13 le13 hle13 ok13 => ?_)
  refine aB ?_
  repeat' (first | (apply aF) | (apply aA) | (apply aG) | (apply aD) | (apply bD; exact rfl; ((refine aO (i := 1) rfl cW rfl (by rfl) (by simp) (by simp [Value.oneCell']) ?_)); refine aB ?_; refine cA ?_) | (refine aE rfl rfl ?_; ((first | refine aH ?_ | refine aC rfl ?_)); refine aB ?_))
  refine fK rfl rfl (dR br A c xs hx) (fun _ => Nat.zero_le _) hle13 aV (fun x14 a14 b14 o14 h14 le14 hle14 ok14 => ?_)
  refine aB ?_
  repeat' (first | (apply aF) | (apply aA) | (apply aG) | (apply aD) | (apply bD; exact rfl; ((refine aO (i := 1) rfl cW rfl (by rfl) (by simp) (by simp [Value.oneCell']) ?_)); refine aB ?_; refine cA ?_) | (refine aE rfl rfl ?_; ((first | refine aH ?_ | refine aC rfl ?_)); refine aB ?_))
  refine fK rfl rfl (dR br A c xs hx) (fun _ => Nat.zero_le _) hle14 aV (fun x15 a15 b15 o15 h15 le15 hle15 ok15 => ?_)
  refine aB ?_
  repeat' (first | (apply aF) | (apply aA) | (apply aG) | (apply aD) | (apply bD; exact rfl; ((refine aO (i := 1) rfl cW rfl (by rfl) (by simp) (by simp [Value.oneCell']) ?_)); refine aB ?_; refine cA ?_) | (refine aE rfl rfl ?_; ((first | refine aH ?_ | refine aC rfl ?_)); refine aB ?_))
  refine fK rfl rfl (dR br A c xs hx) (fun _ => Nat.zero_le _) hle15 aV (fun x16 a16 b16 o16 h16 le16 hle16 ok16 => ?_)
  refine aB ?_
  repeat' (first | (apply aF) | (apply aA) | (apply aG) | (apply aD) | (apply bD; exact rfl; ((refine aO (i := 1) rfl cW rfl (by rfl) (by simp) (by simp [Value.oneCell']) ?_)); refine aB ?_; refine cA ?_) | (refine aE rfl rfl ?_; ((first | refine aH ?_ | refine aC rfl ?_)); refine aB ?_))
  refine fK rfl rfl (dR br A c xs hx) (fun _ => Nat.zero_le _) hle16 aV (fun x17 a17 b17 o17 h17 le17 hle17 ok17 => ?_)
  refine aB ?_
  repeat' (first | (apply aF) | (apply aA) | (apply aG) | (apply aD) | (apply bD; exact rfl; ((refine aO (i := 1) rfl cW rfl (by rfl) (by simp) (by simp [Value.oneCell']) ?_)); refine aB ?_; refine cA ?_) | (refine aE rfl rfl ?_; ((first | refine aH ?_ | refine aC rfl ?_)); refine aB ?_))
  refine fK rfl rfl (dR br A c xs hx) (fun _ => Nat.zero_le _) hle17 aV (fun x18 a18 b18 o18 h18 le18 hle18 ok18 => ?_)
  refine aB ?_
  repeat' (first | (apply aF) | (apply aA) | (apply bN) | (apply aG) | (apply aD) | (apply aP; exact rfl; ((refine aM (i := 1) rfl rfl rfl ?_)); refine aB ?_) | (apply bD; exact rfl; ((first | refine aO (i := 1) rfl cW rfl (by rfl) (by simp) (by simp [Value.oneCell']) ?_ | refine aO (i := 2) rfl cW rfl (by rfl) (by simp) (by simp [Value.oneCell']) ?_)); refine aB ?_; refine cA ?_) | (refine aE rfl rfl ?_; ((refine aC rfl ?_)); refine aB ?_))
  refine bC (.inl rfl) (dM rfl (dG (i := 2) rfl rfl rfl)) (cG (.blk br (gD A c xs a18 b18 o18) 105 :: H) (Sl (.slice A2 x2.length c2) x2 :: Sl (.slice A3 x3.length c3) x3 :: Sl (.slice A12 x12.length c12) x12 :: Sl (.slice A13 x13.length c13) x13 :: R) (fun w hs => hs.weaken bU cZ) ?_)
  exact hk ((x1, x2, x3, x4, x5, x6, x7, x8, x9, x10, x11, x12, x13, x14, x15, x16, x17, x18)) a18 b18 o18 ((), (A2, c2), (A3, c3), (), (), (), (), (), (), (), (), (A12, c12), (A13, c13), (), (), (), (), ()) ((h1).pair ((h2).pair ((h3).pair ((h4).pair ((h5).pair ((h6).pair ((h7).pair ((h8).pair ((h9).pair ((h10).pair ((h11).pair ((h12).pair ((h13).pair ((h14).pair ((h15).pair ((h16).pair ((h17).pair (h18)))))))))))))))))) (by omega) hle18 (show dD x1 ∧ (x2.length ≤ c2 ∧ c2 ≤ dY) ∧ (x3.length ≤ c3 ∧ c3 ≤ dY) ∧ dD x4 ∧ dD x5 ∧ dD x6 ∧ dD x7 ∧ dD x8 ∧ dD x9 ∧ dD x10 ∧ True ∧ (x12.length ≤ c12 ∧ c12 ≤ dY) ∧ (x13.length ≤ c13 ∧ c13 ≤ dY) ∧ dD x14 ∧ dD x15 ∧ dD x16 ∧ dD x17 ∧ dD x18 from ⟨ok1, ok2, ok3, ok4, ok5, ok6, ok7, ok8, ok9, ok10, ok11, ok12, ok13, ok14, ok15, ok16, ok17, ok18⟩)
end Go.Proofs.YtggdljhmbckpmaaGreat
