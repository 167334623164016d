/- Decode: structs read: walks, printed by gen_rd.py. Decode: structs read: walks, printed by gen_rd.py. Decode: structs read: walks, printed by gen_rd.py. Decode: walk. -/
import Derived.Test.YtggdljhmbckpmaaGreatN7
set_option linter.unusedVariables false
set_option linter.unusedSimpArgs false
namespace Go.Proofs.YtggdljhmbckpmaaGreat
open Go Go.RowKit
set_option maxRecDepth 100000
set_option maxHeartbeats 3200000

theorem zC {w0 : World} (br : Nat) (A : Option Addr) (c : Nat) (xs : List UInt8) (hx : xs.length ≤ 250000) : Rr Tryz.prog w0 93 [.pointer (some ⟨br, 0, none⟩)] br A c xs 0 (xF xs) nH := by
  intro H R K KP a hma hax hm hk hp
  refine cP Tryz.func93 rfl Tryz.ntmps93 eZ ?_
  apply aF; apply aA
  repeat' ((refine bG rfl rfl ?_; ((refine bK cW (fun b => ?_))); refine aB ?_))
  apply aG; apply aD
  revert b
  intro bt
  refine jG ?_
  repeat' (first | (apply aF) | (apply aA) | (refine aE rfl rfl ?_; ((first | refine aH ?_ | refine aC rfl ?_)); refine aB ?_) | (refine bG rfl rfl ?_; ((refine bH (by decide) fD rfl (fun b => ?_))); refine aB ?_))
  refine jN [0, 1] rfl rfl rfl rfl (by decide) hx hax aV (by simp) (fun zs1 a1 hi le1 hle1 => ?_) (fun e he => ?_)
  rotate_left
  · skip
    repeat' ((apply aL))
    refine aN (cH H R (fun w hs => hs.weaken bU cZ) (hp e ?_))
    rcases dU he with he | ⟨n0, b0, h1_0, he⟩
    · exact by unfold xF; simp only [bW, he]
    rcases dU he with he | ⟨n1, b1, h1_1, he⟩
    · exact by unfold xF; simp only [bW, h1_0, he]
    cases he
  obtain ⟨n1_0, a1_0, h1_0, hi⟩ := dV hi
  obtain ⟨n1_1, a1_1, h1_1, hi⟩ := dV hi
  obtain ⟨rfl, rfl⟩ := fX hi
  refine aB ?_
  refine cA ?_
  repeat' (first | (apply aF) | (apply aA) | (apply aG) | (apply aD) | (refine aE rfl rfl ?_; ((refine aH ?_)); refine aB ?_))
  refine iM rfl rfl (pX br A c xs hx) (Nat.zero_le _) hle1 aV (fun l2 a2 A2 c2 h2 le2 hle2 ho2 => ?_) (fun e he => ?_)
  rotate_left
  · skip
    repeat' ((apply aL))
    exact aN (cH H R (fun w hs => hs.weaken bU cZ) (hp e (by unfold xF; simp only [bW, h1_0, h1_1, he])))
  refine aB ?_
  repeat' (first | (apply aF) | (apply aA) | (apply aG) | (apply aD) | (apply bD; exact rfl; ((refine aO (i := 1) rfl cW rfl (by rfl) (by simp) (by simp [Value.oneCell']) ?_)); refine aB ?_; refine cA ?_) | (refine aE rfl rfl ?_; ((first | refine aH ?_ | refine aC rfl ?_)); refine aB ?_))
  refine uX rfl rfl (pA br A c xs hx) hle2 aV (fun s3 a3 h3 le3 hle3 => ?_) (fun e he => ?_)
  rotate_left
  · skip
    repeat' ((apply aL))
    exact aN (cH H R (fun w hs => hs.weaken bU cZ) (hp e (by unfold xF; simp only [bW, h1_0, h1_1, h2, he])))
  refine aB ?_
  repeat' (first | (apply aF) | (apply aA) | (apply aG) | (apply aD) | (apply bD; exact rfl; ((refine aO (i := 1) rfl cW rfl (by rfl) (by simp) (by simp [Value.oneCell']) ?_)); refine aB ?_; refine cA ?_) | (refine aE rfl rfl ?_; ((first | refine aH ?_ | refine aC rfl ?_)); refine aB ?_))
  refine iM rfl rfl (pX br A c xs hx) (Nat.zero_le _) hle3 aV (fun l4 a4 A4 c4 h4 qO hle4 ho4 => ?_) (fun e he => ?_)
  rotate_left
  · skip
    repeat' ((apply aL))
    exact aN (cH H R (fun w hs => hs.weaken bU cZ) (hp e (by unfold xF; simp only [bW, h1_0, h1_1, h2, h3, he])))
  refine aB ?_
  repeat' (first | (apply aF) | (apply aA) | (apply aG) | (apply aD) | (apply bD; exact rfl; ((refine aO (i := 1) rfl cW rfl (by rfl) (by simp) (by simp [Value.oneCell']) ?_)); refine aB ?_; refine cA ?_) | (refine aE rfl rfl ?_; ((first | refine aH ?_ | refine aC rfl ?_)); refine aB ?_))
  refine uX rfl rfl (pA br A c xs hx) hle4 aV (fun s5 a5 h5 le5 hle5 => ?_) (fun e he => ?_)
  rotate_left
  · skip
    repeat' ((apply aL))
    exact aN (cH H R (fun w hs => hs.weaken bU cZ) (hp e (by unfold xF; simp only [bW, h1_0, h1_1, h2, h3, h4, he])))
  refine aB ?_
  repeat' (first | (apply aF) | (apply aA) | (apply aG) | (apply aD) | (apply bD; exact rfl; ((refine aO (i := 1) rfl cW rfl (by rfl) (by simp) (by simp [Value.oneCell']) ?_)); refine aB ?_; refine cA ?_) | (refine aE rfl rfl ?_; ((first | refine aH ?_ | refine aC rfl ?_)); refine aB ?_) | (refine bG rfl rfl ?_; ((refine bH (by decide) fD rfl (fun b => ?_))); refine aB ?_))
  refine jN [6] rfl rfl rfl rfl (by decide) hx hle5 aV (by simp) (fun zs6 a6 hi le6 hle6 => ?_) (fun e he => ?_)
  rotate_left
  · skip
    repeat' ((apply aL))
    refine aN (cH H R (fun w hs => hs.weaken bU cZ) (hp e ?_))
    rcases dU he with he | ⟨n0, b0, h6_0, he⟩
    · exact by unfold xF; simp only [bW, h1_0, h1_1, h2, h3, h4, h5, he]
    cases he
  obtain ⟨n6_0, a6_0, h6_0, hi⟩ := dV hi
  obtain ⟨rfl, rfl⟩ := fX hi
  refine aB ?_
  refine cA ?_
  repeat' (first | (apply aF) | (apply aA) | (apply bN) | (apply aG) | (apply aD) | (apply aP; exact rfl; ((refine aM (i := 1) rfl rfl rfl ?_)); refine aB ?_) | (apply bD; exact rfl; ((refine aO (i := 1) rfl cW rfl (by rfl) (by simp) (by simp [Value.oneCell']) ?_)); refine aB ?_; refine cA ?_))
  refine bC (.inl rfl) (dM rfl (dG (i := 1) rfl rfl rfl)) (eI _ (Sl (.slice A2 l2.length c2) l2 :: Sl (.slice A4 l4.length c4) l4 :: R) (fun w hs => hs.weaken bU cZ) (hk (n1_0, n1_1, l2, s3, l4, s5, n6_0) a6 ((), (), (A2, c2), (), (A4, c4), (), ()) (by unfold xF; simp only [bW, h1_0, h1_1, h2, h3, h4, h5, h6_0]) (by omega) hle6 (show dD n1_0 ∧ dD n1_1 ∧ (l2.length ≤ c2 ∧ c2 ≤ dY) ∧ True ∧ (l4.length ≤ c4 ∧ c4 ≤ dY) ∧ True ∧ dD n6_0 from ⟨(eD h1_0).1, (eD h1_1).1, ho2, trivial, ho4, trivial, (eD h6_0).1⟩)))
theorem aB9 {w0 : World} (br : Nat) (A : Option Addr) (c : Nat) (xs : List UInt8) (hx : xs.length ≤ 250000) : Rr Tryz.prog w0 95 [.pointer (some ⟨br, 0, none⟩)] br A c xs 0 (xN xs) nH := by
  intro H R K KP a hma hax hm hk hp
  refine cP Tryz.func95 rfl Tryz.ntmps95 eZ ?_
  apply aF; apply aA
  repeat' ((refine bG rfl rfl ?_; ((refine bK cW (fun b => ?_))); refine aB ?_))
  apply aG; apply aD
  revert b
  intro bt
  refine jG ?_
  repeat' (first | (apply aF) | (apply aA) | (refine aE rfl rfl ?_; ((first | refine aH ?_ | refine aC rfl ?_)); refine aB ?_) | (refine bG rfl rfl ?_; ((refine bH (by decide) fD rfl (fun b => ?_))); refine aB ?_))
  refine jN [0, 1, 2, 3] rfl rfl rfl rfl (by decide) hx hax aV (by simp) (fun zs1 a1 hi le1 hle1 => ?_) (fun e he => ?_)
  rotate_left
  · skip
    repeat' ((apply aL))
    refine aN (cH H R (fun w hs => hs.weaken bU cZ) (hp e ?_))
    rcases dU he with he | ⟨n0, b0, h1_0, he⟩
    · exact by unfold xN; simp only [bW, he]
    rcases dU he with he | ⟨n1, b1, h1_1, he⟩
    · exact by unfold xN; simp only [bW, h1_0, he]
    rcases dU he with he | ⟨n2, b2, h1_2, he⟩
    · exact by unfold xN; simp only [bW, h1_0, h1_1, he]
    rcases dU he with he | ⟨n3, b3, h1_3, he⟩
    · exact by unfold xN; simp only [bW, h1_0, h1_1, h1_2, he]
    cases he
  obtain ⟨n1_0, a1_0, h1_0, hi⟩ := dV hi
  obtain ⟨n1_1, a1_1, h1_1, hi⟩ := dV hi
  obtain ⟨n1_2, a1_2, h1_2, hi⟩ := dV hi
  obtain ⟨n1_3, a1_3, h1_3, hi⟩ := dV hi
  obtain ⟨rfl, rfl⟩ := fX hi
  refine aB ?_
  refine cA ?_
  repeat' (first | (apply aF) | (apply aA) | (apply aG) | (apply aD) | (refine aE rfl rfl ?_; ((first | refine aH ?_ | refine cM gP gP ?_)); refine aB ?_))
  refine iM rfl rfl (kY rfl br A c xs hx 137 [.pointer (some ⟨br, 0, none⟩)] 0 _ _ fQ ((pV br A c xs hx).up (by omega))) (Nat.zero_le _) hle1 aV (fun l2 a2 A2 c2 h2 le2 hle2 ho2 => ?_) (fun e he => ?_)
  rotate_left
  · skip
    repeat' ((apply aL))
    exact aN (cH H R (fun w hs => hs.weaken bU cZ) (hp e (by unfold xN; simp only [bW, h1_0, h1_1, h1_2, h1_3, he])))
  refine aB ?_
  repeat' (first | (apply aF) | (apply aA) | (apply aG) | (apply aD) | (apply bD; exact rfl; ((refine aO (i := 1) rfl cW rfl (by rfl) (by simp) (by simp [Value.oneCell']) ?_)); refine aB ?_; refine cA ?_) | (refine aE rfl rfl ?_; ((first | refine aH ?_ | refine aC rfl ?_)); refine aB ?_))
  refine k7 rfl rfl (wL br A c xs hx) hle2 aV (fun s3 a3 h3 le3 hle3 ho3 => ?_) (fun e he => ?_)
  rotate_left
  · skip
    repeat' ((apply aL))
    exact aN (cH H R (fun w hs => hs.weaken bU cZ) (hp e (by unfold xN; simp only [bW, h1_0, h1_1, h1_2, h1_3, h2, he])))
  refine aB ?_
  repeat' (first | (apply aF) | (apply aA) | (apply aG) | (apply aD) | (apply bD; exact rfl; ((refine aO (i := 1) rfl cW rfl (by rfl) (by simp) (by simp [Value.oneCell']) ?_)); refine aB ?_; refine cA ?_) | (refine aE rfl rfl ?_; ((first | refine aH ?_ | refine aC rfl ?_ | refine cM gP gP ?_)); refine aB ?_))
  refine iM rfl rfl (kY rfl br A c xs hx 137 [.pointer (some ⟨br, 0, none⟩)] 0 _ _ fQ ((pV br A c xs hx).up (by omega))) (Nat.zero_le _) hle3 aV (fun l4 a4 A4 c4 h4 qO hle4 ho4 => ?_) (fun e he => ?_)
  rotate_left
  · skip
    repeat' ((apply aL))
    exact aN (cH H R (fun w hs => hs.weaken bU cZ) (hp e (by unfold xN; simp only [bW, h1_0, h1_1, h1_2, h1_3, h2, h3, he])))
  refine aB ?_
  repeat' (first | (apply aF) | (apply aA) | (apply bN) | (apply aG) | (apply aD) | (apply aP; exact rfl; ((refine aM (i := 1) rfl rfl rfl ?_)); refine aB ?_) | (apply bD; exact rfl; ((refine aO (i := 1) rfl cW rfl (by rfl) (by simp) (by simp [Value.oneCell']) ?_)); refine aB ?_; refine cA ?_) | (refine aE rfl rfl ?_; ((refine aC rfl ?_)); refine aB ?_))
  refine bC (.inl rfl) (dM rfl (dG (i := 1) rfl rfl rfl)) (eI _ (Sl (.slice A2 l2.length c2) l2 :: Sl (.slice A4 l4.length c4) l4 :: R) (fun w hs => hs.weaken bU cZ) (hk (n1_0, n1_1, n1_2, n1_3, l2, s3, l4) a4 ((), (), (), (), (A2, c2), (), (A4, c4)) (by unfold xN; simp only [bW, h1_0, h1_1, h1_2, h1_3, h2, h3, h4]) (by omega) hle4 (show dD n1_0 ∧ dD n1_1 ∧ dD n1_2 ∧ dD n1_3 ∧ (l2.length ≤ c2 ∧ c2 ≤ dY) ∧ s3.size ≤ 9223372036854775807 ∧ (l4.length ≤ c4 ∧ c4 ≤ dY) from ⟨(eD h1_0).1, (eD h1_1).1, (eD h1_2).1, (eD h1_3).1, ho2, ho3, ho4⟩)))
theorem val_r {w0 : World} (br : Nat) (A : Option Addr) (c : Nat) (xs : List UInt8) (hx : xs.length ≤ 250000) : Rr Tryz.prog w0 97 [.pointer (some ⟨br, 0, none⟩)] br A c xs 0 (zG xs) nH := by
  intro H R K KP a hma hax hm hk hp
  refine cP Tryz.func97 rfl Tryz.ntmps97 eZ ?_
  apply aF; apply aA
  repeat' ((refine bG rfl rfl ?_; ((refine bK cW (fun b => ?_))); refine aB ?_))
  apply aG; apply aD
  revert b
  intro bt
  refine jG ?_
  repeat' (first | (apply aF) | (apply aA) | (refine aE rfl rfl ?_; ((first | refine aH ?_ | refine aC rfl ?_)); refine aB ?_) | (refine bG rfl rfl ?_; ((refine bH (by decide) fD rfl (fun b => ?_))); refine aB ?_))
  refine jN [0] rfl rfl rfl rfl (by decide) hx hax aV (by simp) (fun zs1 a1 hi le1 hle1 => ?_) (fun e he => ?_)
  rotate_left
  · skip
    repeat' ((apply aL))
    refine aN (cH H R (fun w hs => hs.weaken bU cZ) (hp e ?_))
    rcases dU he with he | ⟨n0, b0, h1_0, he⟩
    · exact by unfold zG; simp only [bW, he]
    cases he
  obtain ⟨n1_0, a1_0, h1_0, hi⟩ := dV hi
  obtain ⟨rfl, rfl⟩ := fX hi
  refine aB ?_
  refine cA ?_
  repeat' (first | (apply aF) | (apply aA) | (apply aG) | (apply aD) | (refine aE rfl rfl ?_; ((refine aH ?_)); refine aB ?_))
  refine T_rdtp rfl rfl (typ_r br A c xs hx) (Nat.zero_le _) hle1 aV (fun nm2 l2 a2 A2 c2 h2 le2 hle2 ho2 => ?_) (fun e he => ?_)
  rotate_left
  · skip
    repeat' ((apply aL))
    exact aN (cH H R (fun w hs => hs.weaken bU cZ) (hp e (by unfold zG; simp only [bW, h1_0, he])))
  refine aB ?_
  repeat' (first | (apply aF) | (apply aA) | (apply aG) | (apply aD) | (apply bD; exact rfl; ((refine aO (i := 1) rfl cW rfl (by rfl) (by simp) (by simp [Value.oneCell']) ?_)); refine aB ?_; refine cA ?_) | (refine aE rfl rfl ?_; ((first | refine aH ?_ | refine aC rfl ?_)); refine aB ?_))
  refine uX rfl rfl (pA br A c xs hx) hle2 aV (fun s3 a3 h3 le3 hle3 => ?_) (fun e he => ?_)
  rotate_left
  · skip
    repeat' ((apply aL))
    exact aN (cH H R (fun w hs => hs.weaken bU cZ) (hp e (by unfold zG; simp only [bW, h1_0, h2, he])))
  refine aB ?_
  repeat' (first | (apply aF) | (apply aA) | (apply aG) | (apply aD) | (apply bD; exact rfl; ((refine aO (i := 1) rfl cW rfl (by rfl) (by simp) (by simp [Value.oneCell']) ?_)); refine aB ?_; refine cA ?_) | (refine aE rfl rfl ?_; ((first | refine aH ?_ | refine aC rfl ?_)); refine aB ?_))
  refine T_rdtm rfl rfl (pV br A c xs hx) (Nat.zero_le _) hle3 aV (fun k4 i4 nm4 l4 a4 A4 c4 h4 qO hle4 ho4 => ?_) (fun e he => ?_)
  rotate_left
  · skip
    repeat' ((apply aL))
    exact aN (cH H R (fun w hs => hs.weaken bU cZ) (hp e (by unfold zG; simp only [bW, h1_0, h2, h3, he])))
  refine aB ?_
  repeat' (first | (apply aF) | (apply aA) | (apply bN) | (apply aG) | (apply aD) | (apply aP; exact rfl; ((refine aM (i := 1) rfl rfl rfl ?_)); refine aB ?_) | (apply bD; exact rfl; ((refine aO (i := 1) rfl cW rfl (by rfl) (by simp) (by simp [Value.oneCell']) ?_)); refine aB ?_; refine cA ?_) | (refine aE rfl rfl ?_; ((refine aC rfl ?_)); refine aB ?_))
  refine bC (.inl rfl) (dM rfl (dG (i := 1) rfl rfl rfl)) (eI _ (Sl (.slice A2 l2.length c2) l2 :: Sl (.slice A4 l4.length c4) l4 :: R) (fun w hs => hs.weaken bU cZ) (hk (n1_0, .mk nm2 l2, s3, .mk k4 i4 nm4 l4) a4 ((), (A2, c2), (), (A4, c4)) (by unfold zG; simp only [bW, h1_0, h2, h3, h4]) (by omega) hle4 (show dD n1_0 ∧ (nm2.size ≤ 9223372036854775807 ∧ l2.length ≤ 9223372036854775807) ∧ True ∧ (dD k4 ∧ dD i4 ∧ nm4.size ≤ 9223372036854775807 ∧ l4.length ≤ 9223372036854775807) from ⟨(eD h1_0).1, ho2, trivial, ho4⟩)))
theorem t7 {w0 : World} (br : Nat) (A : Option Addr) (c : Nat) (xs : List UInt8) (hx : xs.length ≤ 250000) : Rr Tryz.prog w0 99 [.pointer (some ⟨br, 0, none⟩)] br A c xs 0 (w7 xs) nH := by
  intro H R K KP a hma hax hm hk hp
  refine cP Tryz.func99 rfl Tryz.ntmps99 eZ ?_
  apply aF; apply aA
  repeat' ((refine bG rfl rfl ?_; ((refine bK cW (fun b => ?_))); refine aB ?_))
  apply aG; apply aD
  revert b
  intro bt
  refine jG ?_
  repeat' (first | (apply aF) | (apply aA) | (refine aE rfl rfl ?_; ((first | refine aH ?_ | refine aC rfl ?_)); refine aB ?_) | (refine bG rfl rfl ?_; ((refine bH (by decide) fD rfl (fun b => ?_))); refine aB ?_))
  refine jN [0] rfl rfl rfl rfl (by decide) hx hax aV (by simp) (fun zs1 a1 hi le1 hle1 => ?_) (fun e he => ?_)
  rotate_left
  · skip
    repeat' ((apply aL))
    refine aN (cH H R (fun w hs => hs.weaken bU cZ) (hp e ?_))
    rcases dU he with he | ⟨n0, b0, h1_0, he⟩
    · exact by unfold w7; simp only [bW, he]
    cases he
  obtain ⟨n1_0, a1_0, h1_0, hi⟩ := dV hi
  obtain ⟨rfl, rfl⟩ := fX hi
  refine aB ?_
  refine cA ?_
  repeat' (first | (apply aF) | (apply aA) | (apply aG) | (apply aD) | (refine aE rfl rfl ?_; ((refine aH ?_)); refine aB ?_))
  refine T_rdva rfl rfl (val_r br A c xs hx) (Nat.zero_le _) hle1 aV (fun lv2 tn2 tx2 bo2 k2 i2 nm2 l2 a2 A2 c2 B2 e2 h2 le2 hle2 ho2 => ?_) (fun e he => ?_)
  rotate_left
  · skip
    repeat' ((apply aL))
    exact aN (cH H R (fun w hs => hs.weaken bU cZ) (hp e (by unfold w7; simp only [bW, h1_0, he])))
  refine aB ?_
  repeat' (first | (apply aF) | (apply aA) | (apply bN) | (apply aG) | (apply aD) | (apply aP; exact rfl; ((refine aM (i := 1) rfl rfl rfl ?_)); refine aB ?_) | (apply bD; exact rfl; ((refine aO (i := 1) rfl cW rfl (by rfl) (by simp) (by simp [Value.oneCell']) ?_)); refine aB ?_; refine cA ?_) | (refine aE rfl rfl ?_; ((refine aC rfl ?_)); refine aB ?_))
  refine bC (.inl rfl) (dM rfl (dG (i := 1) rfl rfl rfl)) (eI _ (Sl (.slice A2 tx2.length c2) tx2 :: Sl (.slice B2 l2.length e2) l2 :: R) (fun w hs => hs.weaken bU cZ) (hk (n1_0, (lv2, .mk tn2 tx2, bo2, .mk k2 i2 nm2 l2)) a2 ((), ((), (A2, c2), (), (B2, e2))) (by unfold w7; simp only [bW, h1_0, h2]) (by omega) hle2 (show dD n1_0 ∧ (dD lv2 ∧ (tn2.size ≤ 9223372036854775807 ∧ tx2.length ≤ 9223372036854775807) ∧ True ∧ (dD k2 ∧ dD i2 ∧ nm2.size ≤ 9223372036854775807 ∧ l2.length ≤ 9223372036854775807)) from ⟨(eD h1_0).1, ho2⟩)))
end Go.Proofs.YtggdljhmbckpmaaGreat
namespace Go.Proofs.YtggdljhmbckpmaaGreat
open Go Go.RowKit
set_option maxRecDepth 100000
set_option maxHeartbeats 3200000

theorem j6 {w0 : World} (br : Nat) (A : Option Addr) (c : Nat) (xs : List UInt8) (hx : xs.length ≤ 250000) : Rr Tryz.prog w0 101 [.pointer (some ⟨br, 0, none⟩)] br A c xs 0 (qT xs) nH := by
  intro H R K KP a hma hax hm hk hp
  refine cP Tryz.func101 rfl Tryz.ntmps101 eZ ?_
  apply aF; apply aA
  repeat' ((refine bG rfl rfl ?_; ((refine bK cW (fun b => ?_))); refine aB ?_))
  apply aG; apply aD
  revert b
  intro bt
  refine jG ?_
  repeat' (first | (apply aF) | (apply aA) | (refine aE rfl rfl ?_; ((first | refine aH ?_ | refine aC rfl ?_)); refine aB ?_) | (refine bG rfl rfl ?_; ((refine bH (by decide) fD rfl (fun b => ?_))); refine aB ?_))
  refine jN [0] rfl rfl rfl rfl (by decide) hx hax aV (by simp) (fun zs1 a1 hi le1 hle1 => ?_) (fun e he => ?_)
  rotate_left
  · skip
    repeat' ((apply aL))
    refine aN (cH H R (fun w hs => hs.weaken bU cZ) (hp e ?_))
    rcases dU he with he | ⟨n0, b0, h1_0, he⟩
    · exact by unfold qT; simp only [bW, he]
    cases he
  obtain ⟨n1_0, a1_0, h1_0, hi⟩ := dV hi
  obtain ⟨rfl, rfl⟩ := fX hi
  refine aB ?_
  refine cA ?_
  repeat' (first | (apply aF) | (apply aA) | (apply aG) | (apply aD) | (refine aE rfl rfl ?_; ((first | refine aH ?_ | refine cM gP gP ?_)); refine aB ?_))
  refine iM rfl rfl (g8 rfl br A c xs hx 141 [.pointer (some ⟨br, 0, none⟩)] 0 _ _ fQ ((try_r br A c xs hx).up (by omega))) (Nat.zero_le _) hle1 aV (fun l2 a2 A2 c2 h2 le2 hle2 ho2 => ?_) (fun e he => ?_)
  rotate_left
  · skip
    repeat' ((apply aL))
    exact aN (cH H R (fun w hs => hs.weaken bU cZ) (hp e (by unfold qT; simp only [bW, h1_0, he])))
  refine aB ?_
  repeat' (first | (apply aF) | (apply aA) | (apply aG) | (apply aD) | (apply bD; exact rfl; ((refine aO (i := 1) rfl cW rfl (by rfl) (by simp) (by simp [Value.oneCell']) ?_)); refine aB ?_; refine cA ?_) | (refine aE rfl rfl ?_; ((first | refine aH ?_ | refine aC rfl ?_ | refine cM gP gP ?_)); refine aB ?_))
  refine iM rfl rfl (kY rfl br A c xs hx 137 [.pointer (some ⟨br, 0, none⟩)] 0 _ _ fQ ((pV br A c xs hx).up (by omega))) (Nat.zero_le _) hle2 aV (fun l3 a3 A3 c3 h3 le3 hle3 ho3 => ?_) (fun e he => ?_)
  rotate_left
  · skip
    repeat' ((apply aL))
    exact aN (cH H R (fun w hs => hs.weaken bU cZ) (hp e (by unfold qT; simp only [bW, h1_0, h2, he])))
  refine aB ?_
  repeat' (first | (apply aF) | (apply aA) | (apply aG) | (apply aD) | (apply bD; exact rfl; ((refine aO (i := 1) rfl cW rfl (by rfl) (by simp) (by simp [Value.oneCell']) ?_)); refine aB ?_; refine cA ?_) | (refine aE rfl rfl ?_; ((first | refine aH ?_ | refine aC rfl ?_)); refine aB ?_) | (refine bG rfl rfl ?_; ((refine bH (by decide) fD rfl (fun b => ?_))); refine aB ?_))
  refine jN [3, 4, 5, 6, 7, 8, 9] rfl rfl rfl rfl (by decide) hx hle3 aV (by simp) (fun zs4 a4 hi qO hle4 => ?_) (fun e he => ?_)
  rotate_left
  · skip
    repeat' ((apply aL))
    refine aN (cH H R (fun w hs => hs.weaken bU cZ) (hp e ?_))
    rcases dU he with he | ⟨n0, b0, h4_0, he⟩
    · exact by unfold qT; simp only [bW, h1_0, h2, h3, he]
    rcases dU he with he | ⟨n1, b1, h4_1, he⟩
    · exact by unfold qT; simp only [bW, h1_0, h2, h3, h4_0, he]
    rcases dU he with he | ⟨n2, b2, h4_2, he⟩
    · exact by unfold qT; simp only [bW, h1_0, h2, h3, h4_0, h4_1, he]
    rcases dU he with he | ⟨n3, b3, h4_3, he⟩
    · exact by unfold qT; simp only [bW, h1_0, h2, h3, h4_0, h4_1, h4_2, he]
    rcases dU he with he | ⟨n4, b4, h4_4, he⟩
    · exact by unfold qT; simp only [bW, h1_0, h2, h3, h4_0, h4_1, h4_2, h4_3, he]
    rcases dU he with he | ⟨n5, b5, h4_5, he⟩
    · exact by unfold qT; simp only [bW, h1_0, h2, h3, h4_0, h4_1, h4_2, h4_3, h4_4, he]
    rcases dU he with he | ⟨n6, b6, h4_6, he⟩
    · exact by unfold qT; simp only [bW, h1_0, h2, h3, h4_0, h4_1, h4_2, h4_3, h4_4, h4_5, he]
    cases he
  obtain ⟨n4_0, a4_0, h4_0, hi⟩ := dV hi
  obtain ⟨n4_1, a4_1, h4_1, hi⟩ := dV hi
  obtain ⟨n4_2, a4_2, h4_2, hi⟩ := dV hi
  obtain ⟨n4_3, a4_3, h4_3, hi⟩ := dV hi
  obtain ⟨n4_4, a4_4, h4_4, hi⟩ := dV hi
  obtain ⟨n4_5, a4_5, h4_5, hi⟩ := dV hi
  obtain ⟨n4_6, a4_6, h4_6, hi⟩ := dV hi
  obtain ⟨rfl, rfl⟩ := fX hi
  refine aB ?_
  refine cA ?_
  repeat' (first | (apply aF) | (apply aA) | (apply aG) | (apply aD) | (refine aE rfl rfl ?_; ((refine aH ?_)); refine aB ?_))
  refine uX rfl rfl (pA br A c xs hx) hle4 aV (fun s5 a5 h5 le5 hle5 => ?_) (fun e he => ?_)
  rotate_left
  · skip
    repeat' ((apply aL))
    exact aN (cH H R (fun w hs => hs.weaken bU cZ) (hp e (by unfold qT; simp only [bW, h1_0, h2, h3, h4_0, h4_1, h4_2, h4_3, h4_4, h4_5, h4_6, he])))
  refine aB ?_
  repeat' (first | (apply aF) | (apply aA) | (apply aG) | (apply aD) | (apply bD; exact rfl; ((refine aO (i := 1) rfl cW rfl (by rfl) (by simp) (by simp [Value.oneCell']) ?_)); refine aB ?_; refine cA ?_) | (refine aE rfl rfl ?_; ((first | refine aH ?_ | refine aC rfl ?_)); refine aB ?_))
  refine iM rfl rfl (pX br A c xs hx) (Nat.zero_le _) hle5 aV (fun l6 a6 A6 c6 h6 le6 hle6 ho6 => ?_) (fun e he => ?_)
  rotate_left
  · skip
    repeat' ((apply aL))
    exact aN (cH H R (fun w hs => hs.weaken bU cZ) (hp e (by unfold qT; simp only [bW, h1_0, h2, h3, h4_0, h4_1, h4_2, h4_3, h4_4, h4_5, h4_6, h5, he])))
  refine aB ?_
  repeat' (first | (apply aF) | (apply aA) | (apply aG) | (apply aD) | (apply bD; exact rfl; ((refine aO (i := 1) rfl cW rfl (by rfl) (by simp) (by simp [Value.oneCell']) ?_)); refine aB ?_; refine cA ?_) | (refine aE rfl rfl ?_; ((first | refine aH ?_ | refine aC rfl ?_)); refine aB ?_))
  refine iM rfl rfl (pX br A c xs hx) (Nat.zero_le _) hle6 aV (fun l7 a7 A7 c7 h7 le7 hle7 ho7 => ?_) (fun e he => ?_)
  rotate_left
  · skip
    repeat' ((apply aL))
    exact aN (cH H R (fun w hs => hs.weaken bU cZ) (hp e (by unfold qT; simp only [bW, h1_0, h2, h3, h4_0, h4_1, h4_2, h4_3, h4_4, h4_5, h4_6, h5, h6, he])))
  refine aB ?_
  repeat' (first | (apply aF) | (apply aA) | (apply aG) | (apply aD) | (apply bD; exact rfl; ((refine aO (i := 1) rfl cW rfl (by rfl) (by simp) (by simp [Value.oneCell']) ?_)); refine aB ?_; refine cA ?_) | (refine aE rfl rfl ?_; ((first | refine aH ?_ | refine aC rfl ?_)); refine aB ?_) | (refine bG rfl rfl ?_; ((refine bH (by decide) fD rfl (fun b => ?_))); refine aB ?_))
  refine jN [13, 14, 15, 16, 17] rfl rfl rfl rfl (by decide) hx hle7 aV (by simp) (fun zs8 a8 hi le8 hle8 => ?_) (fun e he => ?_)
  rotate_left
  · skip
    repeat' ((apply aL))
    refine aN (cH H R (fun w hs => hs.weaken bU cZ) (hp e ?_))
    rcases dU he with he | ⟨n0, b0, h8_0, he⟩
    · exact by unfold qT; simp only [bW, h1_0, h2, h3, h4_0, h4_1, h4_2, h4_3, h4_4, h4_5, h4_6, h5, h6, h7, he]
    rcases dU he with he | ⟨n1, b1, h8_1, he⟩
    · exact by unfold qT; simp only [bW, h1_0, h2, h3, h4_0, h4_1, h4_2, h4_3, h4_4, h4_5, h4_6, h5, h6, h7, h8_0, he]
    rcases dU he with he | ⟨n2, b2, h8_2, he⟩
    · exact by unfold qT; simp only [bW, h1_0, h2, h3, h4_0, h4_1, h4_2, h4_3, h4_4, h4_5, h4_6, h5, h6, h7, h8_0, h8_1, he]
    rcases dU he with he | ⟨n3, b3, h8_3, he⟩
    · exact by unfold qT; simp only [bW, h1_0, h2, h3, h4_0, h4_1, h4_2, h4_3, h4_4, h4_5, h4_6, h5, h6, h7, h8_0, h8_1, h8_2, he]
    rcases dU he with he | ⟨n4, b4, h8_4, he⟩
    · exact by unfold qT; simp only [bW, h1_0, h2, h3, h4_0, h4_1, h4_2, h4_3, h4_4, h4_5, h4_6, h5, h6, h7, h8_0, h8_1, h8_2, h8_3, he]
    cases he
  obtain ⟨n8_0, a8_0, h8_0, hi⟩ := dV hi
  obtain ⟨n8_1, a8_1, h8_1, hi⟩ := dV hi
  obtain ⟨n8_2, a8_2, h8_2, hi⟩ := dV hi
  obtain ⟨n8_3, a8_3, h8_3, hi⟩ := dV hi
  obtain ⟨n8_4, a8_4, h8_4, hi⟩ := dV hi
  obtain ⟨rfl, rfl⟩ := fX hi
  refine aB ?_
  refine cA ?_
  repeat' (first | (apply aF) | (apply aA) | (apply bN) | (apply aG) | (apply aD) | (apply aP; exact rfl; ((refine aM (i := 1) rfl rfl rfl ?_)); refine aB ?_) | (apply bD; exact rfl; ((refine aO (i := 1) rfl cW rfl (by rfl) (by simp) (by simp [Value.oneCell']) ?_)); refine aB ?_; refine cA ?_))
  refine bC (.inl rfl) (dM rfl (dG (i := 1) rfl rfl rfl)) (eI _ (Sl (.slice A2 l2.length c2) l2 :: Sl (.slice A3 l3.length c3) l3 :: Sl (.slice A6 l6.length c6) l6 :: Sl (.slice A7 l7.length c7) l7 :: R) (fun w hs => hs.weaken bU cZ) (hk (n1_0, l2, l3, n4_0, n4_1, n4_2, n4_3, n4_4, n4_5, n4_6, s5, l6, l7, n8_0, n8_1, n8_2, n8_3, n8_4) a8 ((), (A2, c2), (A3, c3), (), (), (), (), (), (), (), (), (A6, c6), (A7, c7), (), (), (), (), ()) (by unfold qT; simp only [bW, h1_0, h2, h3, h4_0, h4_1, h4_2, h4_3, h4_4, h4_5, h4_6, h5, h6, h7, h8_0, h8_1, h8_2, h8_3, h8_4]) (by omega) hle8 (show dD n1_0 ∧ (l2.length ≤ c2 ∧ c2 ≤ dY) ∧ (l3.length ≤ c3 ∧ c3 ≤ dY) ∧ dD n4_0 ∧ dD n4_1 ∧ dD n4_2 ∧ dD n4_3 ∧ dD n4_4 ∧ dD n4_5 ∧ dD n4_6 ∧ True ∧ (l6.length ≤ c6 ∧ c6 ≤ dY) ∧ (l7.length ≤ c7 ∧ c7 ≤ dY) ∧ dD n8_0 ∧ dD n8_1 ∧ dD n8_2 ∧ dD n8_3 ∧ dD n8_4 from ⟨(eD h1_0).1, ho2, ho3, (eD h4_0).1, (eD h4_1).1, (eD h4_2).1, (eD h4_3).1, (eD h4_4).1, (eD h4_5).1, (eD h4_6).1, trivial, ho6, ho7, (eD h8_0).1, (eD h8_1).1, (eD h8_2).1, (eD h8_3).1, (eD h8_4).1⟩)))
end Go.Proofs.YtggdljhmbckpmaaGreat
namespace Go.Proofs.YtggdljhmbckpmaaGreat
open Go Go.RowKit
set_option maxRecDepth 100000
set_option maxHeartbeats 3200000

theorem t9 {w0 : World} (br : Nat) (A : Option Addr) (c : Nat) (xs : List UInt8) (hx : xs.length ≤ 250000) : Rr Tryz.prog w0 39 [.pointer (some ⟨br, 0, none⟩)] br A c xs 0 (qR xs) nH := by
  intro H R K KP a hma hax hm hk hp
  refine cP Tryz.func39 rfl Tryz.ntmps39 eZ ?_
  apply aF; apply aA
  repeat' ((refine bG rfl rfl ?_; ((refine bK cW (fun b => ?_))); refine aB ?_))
  apply aG; apply aD
  revert b
  intro bt
  refine jG ?_
  repeat' (first | (apply aF) | (apply aA) | (refine aE rfl rfl ?_; ((first | refine aH ?_ | refine aC rfl ?_)); refine aB ?_) | (refine bG rfl rfl ?_; ((refine bH (by decide) fD rfl (fun b => ?_))); refine aB ?_))
  refine jN [0, 1, 2, 3, 4, 5] rfl rfl rfl rfl (by decide) hx hax aV (by simp) (fun zs1 a1 hi le1 hle1 => ?_) (fun e he => ?_)
  rotate_left
  · skip
    repeat' ((apply aL))
    refine aN (cH H R (fun w hs => hs.weaken bU cZ) (hp e ?_))
    rcases dU he with he | ⟨n0, b0, h1_0, he⟩
    · exact by unfold qR; simp only [bW, he]
    rcases dU he with he | ⟨n1, b1, h1_1, he⟩
    · exact by unfold qR; simp only [bW, h1_0, he]
    rcases dU he with he | ⟨n2, b2, h1_2, he⟩
    · exact by unfold qR; simp only [bW, h1_0, h1_1, he]
    rcases dU he with he | ⟨n3, b3, h1_3, he⟩
    · exact by unfold qR; simp only [bW, h1_0, h1_1, h1_2, he]
    rcases dU he with he | ⟨n4, b4, h1_4, he⟩
    · exact by unfold qR; simp only [bW, h1_0, h1_1, h1_2, h1_3, he]
    rcases dU he with he | ⟨n5, b5, h1_5, he⟩
    · exact by unfold qR; simp only [bW, h1_0, h1_1, h1_2, h1_3, h1_4, he]
    cases he
  obtain ⟨n1_0, a1_0, h1_0, hi⟩ := dV hi
  obtain ⟨n1_1, a1_1, h1_1, hi⟩ := dV hi
  obtain ⟨n1_2, a1_2, h1_2, hi⟩ := dV hi
  obtain ⟨n1_3, a1_3, h1_3, hi⟩ := dV hi
  obtain ⟨n1_4, a1_4, h1_4, hi⟩ := dV hi
  obtain ⟨n1_5, a1_5, h1_5, hi⟩ := dV hi
  obtain ⟨rfl, rfl⟩ := fX hi
  refine aB ?_
  refine cA ?_
  repeat' (first | (apply aF) | (apply aA) | (apply aG) | (apply aD) | (refine aE rfl rfl ?_; ((refine aH ?_)); refine aB ?_))
  refine uX rfl rfl (pA br A c xs hx) hle1 aV (fun s2 a2 h2 le2 hle2 => ?_) (fun e he => ?_)
  rotate_left
  · skip
    repeat' ((apply aL))
    exact aN (cH H R (fun w hs => hs.weaken bU cZ) (hp e (by unfold qR; simp only [bW, h1_0, h1_1, h1_2, h1_3, h1_4, h1_5, he])))
  refine aB ?_
  repeat' (first | (apply aF) | (apply aA) | (apply aG) | (apply aD) | (apply bD; exact rfl; ((refine aO (i := 1) rfl cW rfl (by rfl) (by simp) (by simp [Value.oneCell']) ?_)); refine aB ?_; refine cA ?_) | (refine aE rfl rfl ?_; ((first | refine aH ?_ | refine aC rfl ?_)); refine aB ?_))
  refine iM rfl rfl (pX br A c xs hx) (Nat.zero_le _) hle2 aV (fun l3 a3 A3 c3 h3 le3 hle3 ho3 => ?_) (fun e he => ?_)
  rotate_left
  · skip
    repeat' ((apply aL))
    exact aN (cH H R (fun w hs => hs.weaken bU cZ) (hp e (by unfold qR; simp only [bW, h1_0, h1_1, h1_2, h1_3, h1_4, h1_5, h2, he])))
  refine aB ?_
  repeat' (first | (apply aF) | (apply aA) | (apply aG) | (apply aD) | (apply bD; exact rfl; ((refine aO (i := 1) rfl cW rfl (by rfl) (by simp) (by simp [Value.oneCell']) ?_)); refine aB ?_; refine cA ?_) | (refine aE rfl rfl ?_; ((first | refine aH ?_ | refine aC rfl ?_)); refine aB ?_))
  refine iM rfl rfl (pX br A c xs hx) (Nat.zero_le _) hle3 aV (fun l4 a4 A4 c4 h4 qO hle4 ho4 => ?_) (fun e he => ?_)
  rotate_left
  · skip
    repeat' ((apply aL))
    exact aN (cH H R (fun w hs => hs.weaken bU cZ) (hp e (by unfold qR; simp only [bW, h1_0, h1_1, h1_2, h1_3, h1_4, h1_5, h2, h3, he])))
  refine aB ?_
  repeat' (first | (apply aF) | (apply aA) | (apply aG) | (apply aD) | (apply bD; exact rfl; ((refine aO (i := 1) rfl cW rfl (by rfl) (by simp) (by simp [Value.oneCell']) ?_)); refine aB ?_; refine cA ?_) | (refine aE rfl rfl ?_; ((first | refine aH ?_ | refine aC rfl ?_ | refine cM gP gP ?_)); refine aB ?_))
  refine iM rfl rfl (aA4 rfl br A c xs hx 91 [.pointer (some ⟨br, 0, none⟩)] 0 _ _ fQ ((frame_r br A c xs hx).up (by omega))) (Nat.zero_le _) hle4 aV (fun l5 a5 A5 c5 h5 le5 hle5 ho5 => ?_) (fun e he => ?_)
  rotate_left
  · skip
    repeat' ((apply aL))
    exact aN (cH H R (fun w hs => hs.weaken bU cZ) (hp e (by unfold qR; simp only [bW, h1_0, h1_1, h1_2, h1_3, h1_4, h1_5, h2, h3, h4, he])))
  refine aB ?_
  repeat' (first | (apply aF) | (apply aA) | (apply aG) | (apply aD) | (apply bD; exact rfl; ((refine aO (i := 1) rfl cW rfl (by rfl) (by simp) (by simp [Value.oneCell']) ?_)); refine aB ?_; refine cA ?_) | (refine aE rfl rfl ?_; ((first | refine aH ?_ | refine aC rfl ?_ | refine cM gP gP ?_)); refine aB ?_))
  refine iM rfl rfl (aB0 rfl br A c xs hx 93 [.pointer (some ⟨br, 0, none⟩)] 0 _ _ fQ ((zC br A c xs hx).up (by omega))) (Nat.zero_le _) hle5 aV (fun l6 a6 A6 c6 h6 le6 hle6 ho6 => ?_) (fun e he => ?_)
  rotate_left
  · skip
    repeat' ((apply aL))
    exact aN (cH H R (fun w hs => hs.weaken bU cZ) (hp e (by unfold qR; simp only [bW, h1_0, h1_1, h1_2, h1_3, h1_4, h1_5, h2, h3, h4, h5, he])))
  refine aB ?_
  repeat' (first | (apply aF) | (apply aA) | (apply aG) | (apply aD) | (apply bD; exact rfl; ((refine aO (i := 1) rfl cW rfl (by rfl) (by simp) (by simp [Value.oneCell']) ?_)); refine aB ?_; refine cA ?_) | (refine aE rfl rfl ?_; ((first | refine aH ?_ | refine aC rfl ?_ | refine cM gP gP ?_)); refine aB ?_))
  refine iM rfl rfl (get87_r rfl br A c xs hx 95 [.pointer (some ⟨br, 0, none⟩)] 0 _ _ fQ ((aB9 br A c xs hx).up (by omega))) (Nat.zero_le _) hle6 aV (fun l7 a7 A7 c7 h7 le7 hle7 ho7 => ?_) (fun e he => ?_)
  rotate_left
  · skip
    repeat' ((apply aL))
    exact aN (cH H R (fun w hs => hs.weaken bU cZ) (hp e (by unfold qR; simp only [bW, h1_0, h1_1, h1_2, h1_3, h1_4, h1_5, h2, h3, h4, h5, h6, he])))
  refine aB ?_
  repeat' (first | (apply aF) | (apply aA) | (apply aG) | (apply aD) | (apply bD; exact rfl; ((refine aO (i := 1) rfl cW rfl (by rfl) (by simp) (by simp [Value.oneCell']) ?_)); refine aB ?_; refine cA ?_) | (refine aE rfl rfl ?_; ((first | refine aH ?_ | refine aC rfl ?_ | refine cM gP gP ?_)); refine aB ?_))
  refine iM rfl rfl (aC0 rfl br A c xs hx 97 [.pointer (some ⟨br, 0, none⟩)] 0 _ _ fQ ((val_r br A c xs hx).up (by omega))) (Nat.zero_le _) hle7 aV (fun l8 a8 A8 c8 h8 le8 hle8 ho8 => ?_) (fun e he => ?_)
  rotate_left
  · skip
    repeat' ((apply aL))
    exact aN (cH H R (fun w hs => hs.weaken bU cZ) (hp e (by unfold qR; simp only [bW, h1_0, h1_1, h1_2, h1_3, h1_4, h1_5, h2, h3, h4, h5, h6, h7, he])))
  refine aB ?_
  repeat' (first | (apply aF) | (apply aA) | (apply aG) | (apply aD) | (apply bD; exact rfl; ((refine aO (i := 1) rfl cW rfl (by rfl) (by simp) (by simp [Value.oneCell']) ?_)); refine aB ?_; refine cA ?_) | (refine aE rfl rfl ?_; ((first | refine aH ?_ | refine aC rfl ?_ | refine cM gP gP ?_)); refine aB ?_))
  refine iM rfl rfl (aA2 rfl br A c xs hx 99 [.pointer (some ⟨br, 0, none⟩)] 0 _ _ fQ ((t7 br A c xs hx).up (by omega))) (Nat.zero_le _) hle8 aV (fun l9 a9 A9 c9 h9 le9 hle9 ho9 => ?_) (fun e he => ?_)
  rotate_left
  · skip
    repeat' ((apply aL))
    exact aN (cH H R (fun w hs => hs.weaken bU cZ) (hp e (by unfold qR; simp only [bW, h1_0, h1_1, h1_2, h1_3, h1_4, h1_5, h2, h3, h4, h5, h6, h7, h8, he])))
  refine aB ?_
  repeat' (first | (apply aF) | (apply aA) | (apply aG) | (apply aD) | (apply bD; exact rfl; ((refine aO (i := 1) rfl cW rfl (by rfl) (by simp) (by simp [Value.oneCell']) ?_)); refine aB ?_; refine cA ?_) | (refine aE rfl rfl ?_; ((first | refine aH ?_ | refine aC rfl ?_ | refine cM gP gP ?_)); refine aB ?_))
  refine iM rfl rfl (aA5 rfl br A c xs hx 101 [.pointer (some ⟨br, 0, none⟩)] 0 _ _ fQ ((j6 br A c xs hx).up (by omega))) (Nat.zero_le _) hle9 aV (fun l10 a10 A10 c10 h10 le10 hle10 ho10 => ?_) (fun e he => ?_)
  rotate_left
  · skip
    repeat' ((apply aL))
    exact aN (cH H R (fun w hs => hs.weaken bU cZ) (hp e (by unfold qR; simp only [bW, h1_0, h1_1, h1_2, h1_3, h1_4, h1_5, h2, h3, h4, h5, h6, h7, h8, h9, he])))
  refine aB ?_
  repeat' (first | (apply aF) | (apply aA) | (apply aG) | (apply aD) | (apply bD; exact rfl; ((refine aO (i := 1) rfl cW rfl (by rfl) (by simp) (by simp [Value.oneCell']) ?_)); refine aB ?_; refine cA ?_) | (refine aE rfl rfl ?_; ((first | refine aH ?_ | refine aC rfl ?_)); refine aB ?_) | (refine bG rfl rfl ?_; ((refine bH (by decide) fD rfl (fun b => ?_))); refine aB ?_))
  refine jN [15] rfl rfl rfl rfl (by decide) hx hle10 aV (by simp) (fun zs11 a11 hi le11 hle11 => ?_) (fun e he => ?_)
  rotate_left
  · skip
    repeat' ((apply aL))
    refine aN (cH H R (fun w hs => hs.weaken bU cZ) (hp e ?_))
    rcases dU he with he | ⟨n0, b0, h11_0, he⟩
    · exact by unfold qR; simp only [bW, h1_0, h1_1, h1_2, h1_3, h1_4, h1_5, h2, h3, h4, h5, h6, h7, h8, h9, h10, he]
    cases he
  obtain ⟨n11_0, a11_0, h11_0, hi⟩ := dV hi
  obtain ⟨rfl, rfl⟩ := fX hi
  refine aB ?_
  refine cA ?_
  repeat' (first | (apply aF) | (apply aA) | (apply bN) | (apply aG) | (apply aD) | (apply aP; exact rfl; ((refine aM (i := 1) rfl rfl rfl ?_)); refine aB ?_) | (apply bD; exact rfl; ((refine aO (i := 1) rfl cW rfl (by rfl) (by simp) (by simp [Value.oneCell']) ?_)); refine aB ?_; refine cA ?_))
  refine bC (.inl rfl) (dM rfl (dG (i := 1) rfl rfl rfl)) (eI _ (Sl (.slice A3 l3.length c3) l3 :: Sl (.slice A4 l4.length c4) l4 :: Sl (.slice A5 l5.length c5) l5 :: Sl (.slice A6 l6.length c6) l6 :: Sl (.slice A7 l7.length c7) l7 :: Sl (.slice A8 l8.length c8) l8 :: Sl (.slice A9 l9.length c9) l9 :: Sl (.slice A10 l10.length c10) l10 :: R) (fun w hs => hs.weaken bU cZ) (hk (n1_0, n1_1, n1_2, n1_3, n1_4, n1_5, s2, l3, l4, l5, l6, l7, l8, l9, l10, n11_0) a11 ((), (), (), (), (), (), (), (A3, c3), (A4, c4), (A5, c5), (A6, c6), (A7, c7), (A8, c8), (A9, c9), (A10, c10), ()) (by unfold qR; simp only [bW, h1_0, h1_1, h1_2, h1_3, h1_4, h1_5, h2, h3, h4, h5, h6, h7, h8, h9, h10, h11_0]) (by omega) hle11 (show dD n1_0 ∧ dD n1_1 ∧ dD n1_2 ∧ dD n1_3 ∧ dD n1_4 ∧ dD n1_5 ∧ True ∧ (l3.length ≤ c3 ∧ c3 ≤ dY) ∧ (l4.length ≤ c4 ∧ c4 ≤ dY) ∧ (l5.length ≤ c5 ∧ c5 ≤ dY) ∧ (l6.length ≤ c6 ∧ c6 ≤ dY) ∧ (l7.length ≤ c7 ∧ c7 ≤ dY) ∧ (l8.length ≤ c8 ∧ c8 ≤ dY) ∧ (l9.length ≤ c9 ∧ c9 ≤ dY) ∧ (l10.length ≤ c10 ∧ c10 ≤ dY) ∧ dD n11_0 from ⟨(eD h1_0).1, (eD h1_1).1, (eD h1_2).1, (eD h1_3).1, (eD h1_4).1, (eD h1_5).1, trivial, ho3, ho4, ho5, ho6, ho7, ho8, ho9, ho10, (eD h11_0).1⟩)))
end Go.Proofs.YtggdljhmbckpmaaGreat
namespace Go.Proofs.YtggdljhmbckpmaaGreat
open Go Go.RowKit
set_option maxRecDepth 100000
set_option maxHeartbeats 3200000

def maZ : jT := (0, 0, 0, 0, 0, 0, false, [], [], [], [], [], [], [], [], 0)
def yZ : Unp.Y jT := ((), (), (), (), (), (), (), (none, 0), (none, 0), (none, 0), (none, 0), (none, 0), (none, 0), (none, 0), (none, 0), ())
theorem rK : Unp.ok maZ yZ := by
  have h0 : dD 0 := by simp [dD]
  have hl : (0 : Nat) ≤ 0 ∧ 0 ≤ dY := ⟨Nat.le_refl _, Nat.zero_le _⟩
  exact ⟨h0, h0, h0, h0, h0, h0, trivial, hl, hl, hl, hl, hl, hl, hl, hl, h0⟩
theorem S.maZ {w0 w : World} {H : List Hp} {R : List MP} (hs : S w0 w H R) : S w0 w H (Unp.fs maZ yZ ++ R) :=
  (((((((hs.sl_nil nT).sl_nil lU).sl_nil kZ).sl_nil nZ).sl_nil oI).sl_nil oK).sl_nil Int).sl_nil Int
/-- What Decode returns. -/
def nX (xs : List UInt8) : jT × Int × Int := if 250000 < xs.length then (maZ, 0, 2) else match vM xs with
  | .error e => (maZ, (e : Int), 300)
  | .ok m => (m, 0, 0)
def KDm (K : Value → List Hp → List MP → Prop) (r : jT × Int × Int) (H : List Hp) (R : List MP) : Prop := ∀ y, Unp.ok r.1 y → K (.tuple #[.agg (Unp.cs r.1 y).toArray, .int .i64 r.2.1, .int .i64 r.2.2]) H (Unp.fs r.1 y ++ R)
theorem sW {K : Value → List Hp → List MP → Prop} {r r' : jT × Int × Int} {H : List Hp} {R : List MP} (e : r = r') (h : KDm K r H R) : KDm K r' H R := e ▸ h
theorem p7 {w0 : World} {H : List Hp} {R : List MP} {K : Value → List Hp → List MP → Prop} (A : Option Addr) (c : Nat) (xs : List UInt8) (hxm : xs.length ≤ 9223372036854775806) (hm : Sl (.slice A xs.length c) xs ∈ R)
    (k : KDm K (nX xs) H R) : CallsK Tryz.prog w0 9 #[.slice A xs.length c] H R K := by
  refine nF Tryz.func9 rfl Tryz.ntmps9 eZ ?_
  apply aF; apply aA
  repeat' ((refine bG rfl rfl ?_; ((refine bK cW (fun b => ?_))); refine aB ?_))
  rename_i b2 b3
  revert b
  intro b4
  apply aG; apply aD
  have hpan : ∀ (e : Nat) (E' : List Value) (H' : List Hp) (R' : List MP) (cs : List Value), nX xs = (maZ, (e : Int), 300) → cs.length = 16 → H.Sublist H' → (∀ p ∈ R, p ∈ R') → E'.getD 2 undef = .pointer (some ⟨b2, 0, none⟩) → E'.getD 3 undef = .pointer (some ⟨b3, 0, none⟩) → E'.getD 4 undef = .pointer (some ⟨b4, 0, none⟩) → s6 Tryz.prog w0 Tryz.f9 K (.panicking (rf e)) [⟨.fn (.func 36) [.pointer (some ⟨b2, 0, none⟩), .pointer (some ⟨b3, 0, none⟩), .pointer (some ⟨b4, 0, none⟩)].toArray, #[]⟩] E' (.blk b4 [.int .i64 0] 35 :: .blk b3 [.int .i64 0] 3 :: .blk b2 cs 32 :: H') R' := by
    intro e E' H' R' cs hdec hcs hH' hR' hE2 hE3 hE4
    refine pC Tryz.func36 rfl rfl Tryz.ntmps36 rfl (by simp only [dP, List.length_cons, List.length_nil, Nat.reduceAdd, Nat.reduceSub, List.replicate_succ, List.replicate_zero, List.cons_append, List.nil_append, List.set_cons_succ, List.set_cons_zero]; rfl) ?_
    repeat' (first | (refine aE rfl rfl ?_; refine kQ rfl rfl ?_; refine aB ?_) | (refine aE rfl rfl ?_; refine kO rfl rfl ?_; refine aB ?_) | (apply aF) | (apply aA) | (apply aT) | (apply aK; exact rfl) | (apply aI; exact rfl) | (apply aG) | (apply aD) | (apply bD; exact rfl; ((refine aO (i := 0) rfl cW rfl (by rfl) (by simp) (by simp [Value.oneCell']) ?_)); refine aB ?_; refine cA ?_) | (refine aE rfl rfl ?_; ((refine cD rfl rfl ?_)); refine aB ?_) | (refine bG rfl rfl ?_; ((refine bK cW (fun b => ?_))); refine aB ?_))
    refine dQ eT (by decide +kernel) (uC (p := fun e => mN _ e = true)) (List.Sublist.cons_cons _ (List.Sublist.cons _ (List.Sublist.cons _ (List.Sublist.cons _ (List.Sublist.refl _))))) ?_
    all_goals ((refine bR 0 (List.Sublist.cons_cons _ (List.Sublist.cons _ (List.Sublist.cons _ (List.Sublist.cons _ (List.Sublist.refl _))))) ?_; ((refine dN gI ?_)); refine aJ ?_))
    all_goals ((refine bR 1 (List.Sublist.cons_cons _ (List.Sublist.cons _ (List.Sublist.cons _ (List.Sublist.cons _ (List.Sublist.refl _))))) ?_; ((refine aC rfl ?_)); refine aJ ?_))
    all_goals ((refine bR 2 (List.Sublist.cons_cons _ (List.Sublist.cons _ (List.Sublist.cons _ (List.Sublist.cons _ (List.Sublist.refl _))))) ?_; ((refine aM (i := 0) rfl rfl rfl ?_)); refine aJ ?_))
    -- left: [3, 4, 5]; ready: [3]: ['store']
    refine lL 3 ?_
    refine aO (i := 3) (vs := machZ) rfl cW rfl (by rfl) (by rw [hcs]; decide) (by simp [machZ, Value.oneCell']) ?_
    rw [eC (by rw [hcs]; rfl)]
    refine ⟨.inl (fun w hs => hs.weaken (List.Sublist.cons_cons _ (List.Sublist.cons _ (List.Sublist.cons _ (List.Sublist.cons _ (List.Sublist.refl _))))) (fun _ h => h)), ?_⟩
    refine aJ ?_
    refine jC ?_
    refine lL 4 ?_
    refine aO (i := 2) rfl cW rfl (by rfl) (by simp [machZ]) (by simp [Value.oneCell']) ?_
    refine ⟨.inl (fun w hs => hs.weaken (List.Sublist.cons_cons _ (List.Sublist.cons _ (List.Sublist.cons _ (List.Sublist.cons _ (List.Sublist.refl _))))) (fun _ h => h)), ?_⟩
    refine aJ ?_
    refine jC ?_
    refine lL 5 ?_
    refine aO (i := 1) rfl cW rfl (by rfl) (by simp [machZ]) (by simp [Value.oneCell']) ?_
    refine ⟨.inl (fun w hs => hs.weaken (List.Sublist.cons_cons _ (List.Sublist.cons _ (List.Sublist.cons _ (List.Sublist.cons _ (List.Sublist.refl _))))) (fun _ h => h)), ?_⟩
    refine aJ ?_
    refine jC ?_
    refine jO (by decide +kernel) ?_
    repeat' ((apply bP))
    exact mW (.inl rfl) (nI (z0 rfl (dG (i := 3) hE2 rfl rfl) (dG (i := 2) hE3 rfl rfl) (dG (i := 1) hE4 rfl rfl)) H (Unp.fs maZ yZ ++ R) (fun w hs => (hs.weaken (List.Sublist.cons _ (List.Sublist.cons _ (List.Sublist.cons _ (List.Sublist.cons _ hH')))) hR').maZ) (sW hdec k yZ rK))
  have hret : ∀ (m : jT) (y : Unp.Y jT) (E' : List Value) (H' : List Hp) (R' : List MP), nX xs = (m, 0, 0) → Unp.ok m y → H.Sublist H' → (∀ p ∈ Unp.fs m y ++ R, p ∈ R') → E'.getD 2 undef = .pointer (some ⟨b2, 0, none⟩) → E'.getD 3 undef = .pointer (some ⟨b3, 0, none⟩) → E'.getD 4 undef = .pointer (some ⟨b4, 0, none⟩) → s6 Tryz.prog w0 Tryz.f9 K .returning [⟨.fn (.func 36) [.pointer (some ⟨b2, 0, none⟩), .pointer (some ⟨b3, 0, none⟩), .pointer (some ⟨b4, 0, none⟩)].toArray, #[]⟩] E' (.blk b4 [.int .i64 0] 35 :: .blk b3 [.int .i64 0] 3 :: .blk b2 (Unp.cs m y) 32 :: H') R' := by
    intro m y E' H' R' hdec hok hH' hR' hE2 hE3 hE4
    refine pC Tryz.func36 rfl rfl Tryz.ntmps36 rfl (by simp only [dP, List.length_cons, List.length_nil, Nat.reduceAdd, Nat.reduceSub, List.replicate_succ, List.replicate_zero, List.cons_append, List.nil_append, List.set_cons_succ, List.set_cons_zero]; rfl) ?_
    repeat' (first | (refine aE rfl rfl ?_; refine pF rfl ?_; refine aB ?_) | (apply aF) | (apply aA) | (apply aT) | (apply aK; exact rfl) | (apply aG) | (apply aD) | (apply bP) | (refine aE rfl rfl ?_; ((refine aX ?_)); refine aB ?_))
    exact mW (.inl rfl) (nI (z0 rfl (dG (i := 2) hE2 rfl (cN (UnpL.len m y))) (dG (i := 1) hE3 rfl rfl) (dG (i := 0) hE4 rfl rfl)) H (Unp.fs m y ++ R) (fun w hs => hs.weaken (List.Sublist.cons _ (List.Sublist.cons _ (List.Sublist.cons _ hH'))) hR') (sW hdec k y hok))
  repeat' (first | (refine tD (cap := [_, _, _]) rfl ?_) | (apply aF) | (apply aA) | (apply aT) | (apply bN) | (apply bE) | (apply aK; exact rfl) | (apply aI; exact rfl) | (apply aG) | (apply aD) | (apply bO) | (apply aU; exact rfl; ((refine fF rfl rfl (fun h => ?_) (fun h => ?_))) <;> (refine aB ?_)) | (apply bD; exact rfl; ((first | refine aO (i := 0) rfl cW rfl (by rfl) (by simp) (by simp [Value.oneCell']) ?_ | refine aO (i := 1) rfl cW rfl (by rfl) (by simp) (by simp [Value.oneCell']) ?_ | refine aO (i := 2) rfl cW rfl (by rfl) (by simp) (by simp [Value.oneCell']) ?_)); refine aB ?_; refine cA ?_) | (refine aE rfl rfl ?_; ((first | refine aH ?_ | refine aX ?_ | refine bQ rfl ?_ | refine cM gP gP ?_ | refine dN gI ?_)); refine aB ?_) | (refine bG rfl rfl ?_; ((refine eB cW (fun b => ?_))); refine aB ?_))
  · exact lI (.inl rfl) (nI (z0 rfl (dG (i := 2) rfl rfl rfl) (dG (i := 1) rfl rfl rfl) (dG (i := 0) rfl rfl rfl)) H (Unp.fs maZ yZ ++ R) (fun w hs => (hs.weaken bU (fun _ h => h)).maZ) (sW (r' := (maZ, 0, 2)) (by unfold nX; rw [if_pos (by omega)]) k yZ rK))
  have hx : xs.length ≤ 250000 := by omega
  have hdecE : ∀ e : Nat, vM xs = .error e → nX xs = (maZ, (e : Int), 300) := fun e he => by
    unfold nX
    rw [if_neg (by omega), he]
  have hdecO : ∀ m, vM xs = .ok m → nX xs = (m, 0, 0) := fun e he => by
    unfold nX
    rw [if_neg (by omega), he]
  refine mY 4 ?_
  apply gK
  repeat' (first | (apply aF) | (apply aA) | (apply aT) | (apply bE) | (apply aK; exact rfl) | (apply aG) | (apply aD) | (apply aU; exact rfl; ((refine bM rfl rfl (fun h => ?_) (fun h => ?_))) <;> (first | (exfalso; omega) | refine aB ?_)) | (refine aE rfl rfl ?_; ((first | refine aH ?_ | refine aX ?_)); refine aB ?_))
  refine dQ eT (by decide +kernel) (qB (by decide +kernel)) (List.Sublist.cons _ (List.Sublist.refl _)) ?_
  all_goals ((refine bR 0 (List.Sublist.cons _ (List.Sublist.refl _)) ?_; ((refine aH ?_)); refine aJ ?_))
  all_goals ((refine bR 1 (List.Sublist.cons _ (List.Sublist.refl _)) ?_; ((refine aW rfl ?_)); refine aJ ?_))
  all_goals ((refine bR 2 (List.Sublist.cons _ (List.Sublist.refl _)) ?_; ((refine aC rfl ?_)); refine aJ ?_))
  all_goals ((refine bR 4 (List.Sublist.cons _ (List.Sublist.refl _)) ?_; ((refine aH ?_)); refine aJ ?_))
  all_goals ((refine bR 5 (List.Sublist.cons _ (List.Sublist.refl _)) ?_; ((refine fL (c := 109) rfl rfl (by omega) rfl ?_)); refine aJ ?_))
  -- left: [3, 6]; ready: [3]: ['call']
  refine fN 3 ?_
  refine iD (KP := fun ch H' R' => ch = rf xs.length ∧ H' = .blk b4 [.int .i64 0] 35 :: .blk b3 [.int .i64 0] 3 :: .blk b2 machZ 32 :: H ∧ R' = R ∧ xs.length ≤ 0) rfl (rH b A c xs 0 hxm (by omega) hm (fun hlt0 => ?_) (fun hge => ⟨rfl, rfl, rfl, hge⟩)) ?_
  rotate_left
  · rintro ch H' R' ⟨rfl, rfl, rfl, hge⟩
    repeat' (first | apply aL | apply bY)
    exact fC (hpan _ _ H R' machZ (hdecE _ (by unfold vM gZ; simp only [if_pos (show xs.length ≤ 0 from hge)])) rfl (List.Sublist.refl _) (fun _ h => h) rfl rfl rfl)
  refine ⟨.inl (fun w hs => hs.weaken (List.Sublist.cons _ (List.Sublist.refl _)) (fun _ h => h)), ?_⟩; refine aJ ?_
  all_goals ((refine bR 6 (List.Sublist.cons _ (List.Sublist.refl _)) ?_; ((refine eL rfl rfl (fun h => ?_) (fun h => ?_))) <;> (refine aJ ?_)))
  all_goals refine gX ?_
  · have hne0 := h
    repeat' (first | (apply aA) | (apply aK; exact rfl) | (apply aD) | (refine aE rfl rfl ?_; ((refine aH ?_)); refine aB ?_))
    refine oE rfl rfl (by omega) (by omega) ?_
    repeat' (first | apply aL | apply bY)
    exact fC (hpan _ _ H R machZ (hdecE _ (by unfold vM gZ; simp only [if_neg (show ¬ xs.length ≤ 0 by omega), if_pos (show xs[0]? ≠ some 109 from fun h => hne0 (by rw [List.getElem?_eq_getElem hlt0] at h; injection h with h; rw [h]))])) rfl (List.Sublist.refl _) (fun _ h => h) rfl rfl rfl)
  have heq0 := h
  have g0 : xs[0]? = some 109 := by
    rw [List.getElem?_eq_getElem hlt0]
    congr 1
    exact UInt8.toNat_inj.1 (by exact_mod_cast heq0)
  repeat' (first | (apply aA) | (apply bE) | (apply aI; exact rfl) | (apply aG) | (apply aD) | (apply bP) | (apply aU; exact rfl; ((refine bI rfl rfl (by omega) (by omega) ?_)); refine aB ?_) | (refine aE rfl rfl ?_; ((refine aH ?_)); refine aB ?_))
  apply jE
  apply gK
  repeat' (first | (apply aF) | (apply aA) | (apply aT) | (apply bE) | (apply aK; exact rfl) | (apply aG) | (apply aD) | (apply aU; exact rfl; ((refine bM rfl rfl (fun h => ?_) (fun h => ?_))) <;> (first | (exfalso; omega) | refine aB ?_)) | (refine aE rfl rfl ?_; ((first | refine aH ?_ | refine aX ?_)); refine aB ?_))
  refine dQ eT (by decide +kernel) (qB (by decide +kernel)) (List.Sublist.cons _ (List.Sublist.refl _)) ?_
  all_goals ((refine bR 0 (List.Sublist.cons _ (List.Sublist.refl _)) ?_; ((refine aH ?_)); refine aJ ?_))
  all_goals ((refine bR 1 (List.Sublist.cons _ (List.Sublist.refl _)) ?_; ((refine aW rfl ?_)); refine aJ ?_))
  all_goals ((refine bR 2 (List.Sublist.cons _ (List.Sublist.refl _)) ?_; ((refine aC rfl ?_)); refine aJ ?_))
  all_goals ((refine bR 4 (List.Sublist.cons _ (List.Sublist.refl _)) ?_; ((refine aH ?_)); refine aJ ?_))
  all_goals ((refine bR 5 (List.Sublist.cons _ (List.Sublist.refl _)) ?_; ((refine fL (c := 97) rfl rfl (by omega) rfl ?_)); refine aJ ?_))
  -- left: [3, 6]; ready: [3]: ['call']
  refine fN 3 ?_
  refine iD (KP := fun ch H' R' => ch = rf xs.length ∧ H' = .blk b4 [.int .i64 0] 35 :: .blk b3 [.int .i64 0] 3 :: .blk b2 machZ 32 :: H ∧ R' = R ∧ xs.length ≤ 1) rfl (rH b A c xs 1 hxm (by omega) hm (fun hlt1 => ?_) (fun hge => ⟨rfl, rfl, rfl, hge⟩)) ?_
  rotate_left
  · rintro ch H' R' ⟨rfl, rfl, rfl, hge⟩
    repeat' (first | apply aL | apply bY)
    exact fC (hpan _ _ H R' machZ (hdecE _ (by unfold vM gZ; simp only [if_neg (show ¬ xs.length ≤ 0 by omega), if_neg (show ¬ (xs[0]? ≠ some 109) from fun h => h g0), if_pos (show xs.length ≤ 1 from hge)])) rfl (List.Sublist.refl _) (fun _ h => h) rfl rfl rfl)
  refine ⟨.inl (fun w hs => hs.weaken (List.Sublist.cons _ (List.Sublist.refl _)) (fun _ h => h)), ?_⟩; refine aJ ?_
  all_goals ((refine bR 6 (List.Sublist.cons _ (List.Sublist.refl _)) ?_; ((refine eL rfl rfl (fun h => ?_) (fun h => ?_))) <;> (refine aJ ?_)))
  all_goals refine gX ?_
  · have hne1 := h
    repeat' (first | (apply aA) | (apply aK; exact rfl) | (apply aD) | (refine aE rfl rfl ?_; ((refine aH ?_)); refine aB ?_))
    refine oE rfl rfl (by omega) (by omega) ?_
    repeat' (first | apply aL | apply bY)
    exact fC (hpan _ _ H R machZ (hdecE _ (by unfold vM gZ; simp only [if_neg (show ¬ xs.length ≤ 0 by omega), if_neg (show ¬ (xs[0]? ≠ some 109) from fun h => h g0), if_neg (show ¬ xs.length ≤ 1 by omega), if_pos (show xs[1]? ≠ some 97 from fun h => hne1 (by rw [List.getElem?_eq_getElem hlt1] at h; injection h with h; rw [h]))])) rfl (List.Sublist.refl _) (fun _ h => h) rfl rfl rfl)
  have heq1 := h
  have g1 : xs[1]? = some 97 := by
    rw [List.getElem?_eq_getElem hlt1]
    congr 1
    exact UInt8.toNat_inj.1 (by exact_mod_cast heq1)
  repeat' (first | (apply aA) | (apply bE) | (apply aI; exact rfl) | (apply aG) | (apply aD) | (apply bP) | (apply aU; exact rfl; ((refine bI rfl rfl (by omega) (by omega) ?_)); refine aB ?_) | (refine aE rfl rfl ?_; ((refine aH ?_)); refine aB ?_))
  apply jE
  apply gK
  repeat' (first | (apply aF) | (apply aA) | (apply aT) | (apply bE) | (apply aK; exact rfl) | (apply aG) | (apply aD) | (apply aU; exact rfl; ((refine bM rfl rfl (fun h => ?_) (fun h => ?_))) <;> (first | (exfalso; omega) | refine aB ?_)) | (refine aE rfl rfl ?_; ((first | refine aH ?_ | refine aX ?_)); refine aB ?_))
  refine dQ eT (by decide +kernel) (qB (by decide +kernel)) (List.Sublist.cons _ (List.Sublist.refl _)) ?_
  all_goals ((refine bR 0 (List.Sublist.cons _ (List.Sublist.refl _)) ?_; ((refine aH ?_)); refine aJ ?_))
  all_goals ((refine bR 1 (List.Sublist.cons _ (List.Sublist.refl _)) ?_; ((refine aW rfl ?_)); refine aJ ?_))
  all_goals ((refine bR 2 (List.Sublist.cons _ (List.Sublist.refl _)) ?_; ((refine aC rfl ?_)); refine aJ ?_))
  all_goals ((refine bR 4 (List.Sublist.cons _ (List.Sublist.refl _)) ?_; ((refine aH ?_)); refine aJ ?_))
  all_goals ((refine bR 5 (List.Sublist.cons _ (List.Sublist.refl _)) ?_; ((refine fL (c := 1) rfl rfl (by omega) rfl ?_)); refine aJ ?_))
  -- left: [3, 6]; ready: [3]: ['call']
  refine fN 3 ?_
  refine iD (KP := fun ch H' R' => ch = rf xs.length ∧ H' = .blk b4 [.int .i64 0] 35 :: .blk b3 [.int .i64 0] 3 :: .blk b2 machZ 32 :: H ∧ R' = R ∧ xs.length ≤ 2) rfl (rH b A c xs 2 hxm (by omega) hm (fun hlt2 => ?_) (fun hge => ⟨rfl, rfl, rfl, hge⟩)) ?_
  rotate_left
  · rintro ch H' R' ⟨rfl, rfl, rfl, hge⟩
    repeat' (first | apply aL | apply bY)
    exact fC (hpan _ _ H R' machZ (hdecE _ (by unfold vM gZ; simp only [if_neg (show ¬ xs.length ≤ 0 by omega), if_neg (show ¬ (xs[0]? ≠ some 109) from fun h => h g0), if_neg (show ¬ xs.length ≤ 1 by omega), if_neg (show ¬ (xs[1]? ≠ some 97) from fun h => h g1), if_pos (show xs.length ≤ 2 from hge)])) rfl (List.Sublist.refl _) (fun _ h => h) rfl rfl rfl)
  refine ⟨.inl (fun w hs => hs.weaken (List.Sublist.cons _ (List.Sublist.refl _)) (fun _ h => h)), ?_⟩; refine aJ ?_
  all_goals ((refine bR 6 (List.Sublist.cons _ (List.Sublist.refl _)) ?_; ((refine eL rfl rfl (fun h => ?_) (fun h => ?_))) <;> (refine aJ ?_)))
  all_goals refine gX ?_
  · have hne2 := h
    repeat' (first | (apply aA) | (apply aK; exact rfl) | (apply aD) | (refine aE rfl rfl ?_; ((refine aH ?_)); refine aB ?_))
    refine oE rfl rfl (by omega) (by omega) ?_
    repeat' (first | apply aL | apply bY)
    exact fC (hpan _ _ H R machZ (hdecE _ (by unfold vM gZ; simp only [if_neg (show ¬ xs.length ≤ 0 by omega), if_neg (show ¬ (xs[0]? ≠ some 109) from fun h => h g0), if_neg (show ¬ xs.length ≤ 1 by omega), if_neg (show ¬ (xs[1]? ≠ some 97) from fun h => h g1), if_neg (show ¬ xs.length ≤ 2 by omega), if_pos (show xs[2]? ≠ some 1 from fun h => hne2 (by rw [List.getElem?_eq_getElem hlt2] at h; injection h with h; rw [h]))])) rfl (List.Sublist.refl _) (fun _ h => h) rfl rfl rfl)
  have heq2 := h
  have g2 : xs[2]? = some 1 := by
    rw [List.getElem?_eq_getElem hlt2]
    congr 1
    exact UInt8.toNat_inj.1 (by exact_mod_cast heq2)
  repeat' (first | (apply aA) | (apply bE) | (apply aI; exact rfl) | (apply aG) | (apply aD) | (apply bP) | (apply aU; exact rfl; ((refine bI rfl rfl (by omega) (by omega) ?_)); refine aB ?_) | (refine aE rfl rfl ?_; ((refine aH ?_)); refine aB ?_))
  apply jE
  apply gK
  have hhead : gZ xs 0 = .ok ((), 3) := by
    unfold gZ
    simp only [if_neg (show ¬ xs.length ≤ 0 by omega), if_neg (show ¬ (xs[0]? ≠ some 109) from fun h => h g0), if_neg (show ¬ xs.length ≤ 1 by omega), if_neg (show ¬ (xs[1]? ≠ some 97) from fun h => h g1), if_neg (show ¬ xs.length ≤ 2 by omega), if_neg (show ¬ (xs[2]? ≠ some 1) from fun h => h g2)]
  repeat' (first | (apply aF) | (apply aA) | (apply bV) | (apply aI; exact rfl) | (apply aG) | (apply aD) | (apply aS) | (apply aR) | (apply aU; exact rfl; ((refine bM rfl rfl (fun h => ?_) (fun h => ?_))) <;> (first | (exfalso; omega) | refine aB ?_)) | (refine aE rfl rfl ?_; ((refine aH ?_)); refine aB ?_))
  refine sF rfl rfl (t9 b A c xs hx) (Nat.zero_le _) (by omega) hm (fun m a' y hd h1 h2 hok => ?_) (fun e he => ?_)
  rotate_left
  · skip
    repeat' ((apply aL))
    exact fC (hpan _ _ H R machZ (hdecE _ (by unfold vM; rw [hhead]; simp only; rw [rT, he])) rfl (List.Sublist.refl _) (fun _ h => h) rfl rfl rfl)
  refine aB ?_
  have hlen : (Unp.cs m y).length = 16 := UnpL.len m y
  refine bG rfl rfl ?_
  refine aO (i := 3) (vs := Unp.cs m y) rfl rfl rfl hlen (by simp [machZ]) (UnpL.one m y) ?_
  rw [eC (by rw [hlen]; rfl)]
  refine aB ?_
  refine cA ?_
  repeat' (first | (apply aF) | (apply aA) | (apply bE) | (apply aK; exact rfl) | (apply aI; exact rfl) | (apply aG) | (apply aD) | (apply aP; exact rfl; ((first | refine aM (i := 0) rfl rfl rfl ?_ | refine aM (i := 3) rfl rfl rfl ?_)); refine aB ?_) | (apply aU; exact rfl; ((refine bM rfl rfl (fun h => ?_) (fun h => ?_))) <;> (refine aB ?_)) | (refine aE rfl rfl ?_; ((first | refine aH ?_ | refine aW rfl ?_ | refine aC rfl ?_ | refine bQ rfl ?_ | refine dN gI ?_ | refine eX rfl ?_)); refine aB ?_))
  · refine rB rfl rfl ?_
    repeat' (apply aL)
    refine kS (.blk b4 [.int .i64 0] 35 :: .blk b3 [.int .i64 0] 3 :: .blk b2 (Unp.cs m y) 32 :: H) _ (fun w hs => hs.weaken (List.Sublist.cons _ (List.Sublist.refl _)) (fun _ h => h)) ?_
    exact fC (hpan a' _ H (Unp.fs m y ++ R) (Unp.cs m y) (hdecE _ (by unfold vM; rw [hhead]; simp only; rw [rT, hd]; simp only; rw [if_pos (by omega)])) hlen (List.Sublist.refl _) (fun p hp => List.mem_append_right _ hp) rfl rfl rfl)
  · have e : List.take 16 (List.drop 0 (Unp.cs m y)) = Unp.cs m y := by rw [List.drop_zero, ← hlen, List.take_length]
    rw [e]
    refine bG rfl rfl ?_
    refine aO (i := 3) (vs := Unp.cs m y) rfl rfl rfl hlen (by rw [hlen]; decide) (UnpL.one m y) ?_
    rw [eC rfl]
    refine aB ?_
    refine cA ?_
    repeat' (first | (apply bN) | (apply aG) | (apply aD) | (apply bD; exact rfl; ((first | refine aO (i := 1) rfl cW rfl (by rfl) (by simp) (by simp [Value.oneCell']) ?_ | refine aO (i := 2) rfl cW rfl (by rfl) (by simp) (by simp [Value.oneCell']) ?_)); refine aB ?_; refine cA ?_))
    refine kS (.blk b4 [.int .i64 0] 35 :: .blk b3 [.int .i64 0] 3 :: .blk b2 (Unp.cs m y) 32 :: H) _ (fun w hs => hs.weaken (List.Sublist.cons _ (List.Sublist.refl _)) (fun _ h => h)) ?_
    exact lI (.inl rfl) (hret m y _ H (Unp.fs m y ++ R) (hdecO m (by unfold vM; rw [hhead]; simp only; rw [rT, hd]; simp only; rw [if_neg (by omega)])) hok (List.Sublist.refl _) (fun _ h => h) rfl rfl rfl)
end Go.Proofs.YtggdljhmbckpmaaGreat
