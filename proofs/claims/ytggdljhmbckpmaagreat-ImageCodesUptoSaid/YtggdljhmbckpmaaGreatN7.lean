/- Decode: structs read: walks, printed by gen_rd.py. -/
import Derived.Test.YtggdljhmbckpmaaGreatNB
set_option linter.unusedVariables false
set_option linter.unusedSimpArgs false
namespace Go.Proofs.YtggdljhmbckpmaaGreat
open Go Go.RowKit
set_option maxRecDepth 100000
set_option maxHeartbeats 3200000

abbrev s4 (xs : List UInt8) : Dc Tm := wM xs (xs.length + 1)
abbrev tpD (xs : List UInt8) : Dc Tp := yE xs (xs.length + 1)
def zH (xs : List UInt8) : Dc oK := bW (dK xs (s4 xs)) (bW (dK xs (s4 xs)) (bW (eH xs) (bW (eH xs) (eH xs))))
def xF (xs : List UInt8) : Dc oI := bW (eH xs) (bW (eH xs) (bW (dK xs (eH xs)) (bW (gM xs) (bW (dK xs (eH xs)) (bW (gM xs) (eH xs))))))
def xN (xs : List UInt8) : Dc nZ := bW (eH xs) (bW (eH xs) (bW (eH xs) (bW (eH xs) (bW (dK xs (s4 xs)) (bW (jI xs) (dK xs (s4 xs)))))))
def zG (xs : List UInt8) : Dc kZ := bW (eH xs) (bW (tpD xs) (bW (gM xs) (s4 xs)))
def tyD (xs : List UInt8) : Dc qS := bW (eH xs) (bW (eH xs) (eH xs))
def w7 (xs : List UInt8) : Dc lU := bW (eH xs) (zG xs)
def qT (xs : List UInt8) : Dc nT := bW (eH xs) (bW (dK xs (tyD xs)) (bW (dK xs (s4 xs)) (bW (eH xs) (bW (eH xs) (bW (eH xs) (bW (eH xs) (bW (eH xs) (bW (eH xs) (bW (eH xs) (bW (gM xs) (bW (dK xs (eH xs)) (bW (dK xs (eH xs)) (bW (eH xs) (bW (eH xs) (bW (eH xs) (bW (eH xs) (eH xs)))))))))))))))))
def qR (xs : List UInt8) : Dc jT := bW (eH xs) (bW (eH xs) (bW (eH xs) (bW (eH xs) (bW (eH xs) (bW (eH xs) (bW (gM xs) (bW (dK xs (eH xs)) (bW (dK xs (eH xs)) (bW (dK xs (zH xs)) (bW (dK xs (xF xs)) (bW (dK xs (xN xs)) (bW (dK xs (zG xs)) (bW (dK xs (w7 xs)) (bW (dK xs (qT xs)) (eH xs)))))))))))))))
theorem rT (xs : List UInt8) : Cod.dec (α := jT) xs = qR xs := rfl

theorem typ_rr {w0 : World} (br : Nat) (A : Option Addr) (c : Nat) (xs : List UInt8) (hx : xs.length ≤ 250000) : ∀ f m : Nat, xs.length < m + f → Rr Tryz.prog w0 139 [.pointer (some ⟨br, 0, none⟩)] br A c xs m (yE xs f) nH := by
  intro f
  induction f with
  | zero => exact fun m hm H R K KP a hma hax => by omega
  | succ f ih =>
  intro m hmf
  have ih' := ih (m + 1) (by omega)
  intro H R K KP a hma hax hm hk hp
  refine cP Tryz.func139 rfl Tryz.ntmps139 eZ ?_
  apply aF; apply aA
  repeat' ((refine bG rfl rfl ?_; ((refine bK cW (fun b => ?_))); refine aB ?_))
  apply aG; apply aD
  revert b
  intro bt
  refine jG ?_
  repeat' (first | (apply aF) | (apply aA) | (refine aE rfl rfl ?_; ((refine aH ?_)); refine aB ?_))
  refine k7 rfl rfl (wL br A c xs hx) hax aV (fun s1 a1 h1 le1 hle1 ho1 => ?_) (fun e he => ?_)
  rotate_left
  · skip
    repeat' ((apply aL))
    exact aN (cH H R (fun w hs => hs.weaken bU cZ) (hp e (by unfold yE iV; simp only [bW, he])))
  refine aB ?_
  repeat' (first | (apply aF) | (apply aA) | (apply aG) | (apply aD) | (apply bD; exact rfl; ((refine aO (i := 1) rfl cW rfl (by rfl) (by simp) (by simp [Value.oneCell']) ?_)); refine aB ?_; refine cA ?_) | (refine aE rfl rfl ?_; ((first | refine aH ?_ | refine aC rfl ?_ | refine cM gP gP ?_)); refine aB ?_))
  refine iM rfl rfl (p3 rfl br A c xs hx 139 [.pointer (some ⟨br, 0, none⟩)] m _ _ fQ ih') (by omega) hle1 aV (fun l2 a2 A2 c2 h2 le2 hle2 ho2 => ?_) (fun e he => ?_)
  rotate_left
  · skip
    repeat' ((apply aL))
    exact aN (cH H R (fun w hs => hs.weaken bU cZ) (hp e (by unfold yE iV; simp only [bW, h1, he])))
  refine aB ?_
  repeat' (first | (apply aF) | (apply aA) | (apply bN) | (apply aG) | (apply aD) | (apply aP; exact rfl; ((refine aM (i := 1) rfl rfl rfl ?_)); refine aB ?_) | (apply bD; exact rfl; ((refine aO (i := 1) rfl cW rfl (by rfl) (by simp) (by simp [Value.oneCell']) ?_)); refine aB ?_; refine cA ?_) | (refine aE rfl rfl ?_; ((refine aC rfl ?_)); refine aB ?_))
  refine bC (.inl rfl) (dM rfl (dG (i := 1) rfl rfl rfl)) (eI _ (Sl (.slice A2 l2.length c2) l2 :: R) (fun w hs => hs.weaken bU cZ) (hk (.mk s1 l2) a2 (A2, c2) (by unfold yE iV; simp only [bW, h1, h2]; rfl) (by omega) hle2 (show s1.size ≤ 9223372036854775807 ∧ l2.length ≤ 9223372036854775807 from ⟨ho1, Nat.le_trans ho2.1 ho2.2⟩)))
theorem typ_r {w0 : World} (br : Nat) (A : Option Addr) (c : Nat) (xs : List UInt8) (hx : xs.length ≤ 250000) : Rr Tryz.prog w0 139 [.pointer (some ⟨br, 0, none⟩)] br A c xs 0 (tpD xs) nH := typ_rr br A c xs hx _ _ (by omega)
theorem z9 {w0 : World} (br : Nat) (A : Option Addr) (c : Nat) (xs : List UInt8) (hx : xs.length ≤ 250000) : ∀ f m : Nat, xs.length < m + f → Rr Tryz.prog w0 137 [.pointer (some ⟨br, 0, none⟩)] br A c xs m (wM xs f) nH := by
  intro f
  induction f with
  | zero => exact fun m hm H R K KP a hma hax => by omega
  | succ f ih =>
  intro m hmf
  have ih' := ih (m + 1) (by omega)
  intro H R K KP a hma hax hm hk hp
  refine cP Tryz.func137 rfl Tryz.ntmps137 eZ ?_
  apply aF; apply aA
  repeat' ((refine bG rfl rfl ?_; ((refine bK cW (fun b => ?_))); refine aB ?_))
  apply aG; apply aD
  revert b
  intro bt
  refine jG ?_
  repeat' (first | (apply aF) | (apply aA) | (refine aE rfl rfl ?_; ((first | refine aH ?_ | refine aC rfl ?_)); refine aB ?_) | (refine bG rfl rfl ?_; ((refine bH (by decide) fD rfl (fun b => ?_))); refine aB ?_))
  refine jN [0, 1] rfl rfl rfl rfl (by decide) hx hax aV (by simp) (fun zs1 a1 hi le1 hle1 => ?_) (fun e he => ?_)
  rotate_left
  · skip
    repeat' ((apply aL))
    refine aN (cH H R (fun w hs => hs.weaken bU cZ) (hp e ?_))
    rcases dU he with he | ⟨n0, b0, h1_0, he⟩
    · exact by unfold wM iV; simp only [bW, he]
    rcases dU he with he | ⟨n1, b1, h1_1, he⟩
    · exact by unfold wM iV; simp only [bW, h1_0, he]
    cases he
  obtain ⟨n1_0, a1_0, h1_0, hi⟩ := dV hi
  obtain ⟨n1_1, a1_1, h1_1, hi⟩ := dV hi
  obtain ⟨rfl, rfl⟩ := fX hi
  refine aB ?_
  refine cA ?_
  repeat' (first | (apply aF) | (apply aA) | (apply aG) | (apply aD) | (refine aE rfl rfl ?_; ((refine aH ?_)); refine aB ?_))
  refine k7 rfl rfl (wL br A c xs hx) hle1 aV (fun s2 a2 h2 le2 hle2 ho2 => ?_) (fun e he => ?_)
  rotate_left
  · skip
    repeat' ((apply aL))
    exact aN (cH H R (fun w hs => hs.weaken bU cZ) (hp e (by unfold wM iV; simp only [bW, h1_0, h1_1, he])))
  refine aB ?_
  repeat' (first | (apply aF) | (apply aA) | (apply aG) | (apply aD) | (apply bD; exact rfl; ((refine aO (i := 1) rfl cW rfl (by rfl) (by simp) (by simp [Value.oneCell']) ?_)); refine aB ?_; refine cA ?_) | (refine aE rfl rfl ?_; ((first | refine aH ?_ | refine aC rfl ?_ | refine cM gP gP ?_)); refine aB ?_))
  refine iM rfl rfl (kY rfl br A c xs hx 137 [.pointer (some ⟨br, 0, none⟩)] m _ _ fQ ih') (by omega) hle2 aV (fun l3 a3 A3 c3 h3 le3 hle3 ho3 => ?_) (fun e he => ?_)
  rotate_left
  · skip
    repeat' ((apply aL))
    exact aN (cH H R (fun w hs => hs.weaken bU cZ) (hp e (by unfold wM iV; simp only [bW, h1_0, h1_1, h2, he])))
  refine aB ?_
  repeat' (first | (apply aF) | (apply aA) | (apply bN) | (apply aG) | (apply aD) | (apply aP; exact rfl; ((refine aM (i := 1) rfl rfl rfl ?_)); refine aB ?_) | (apply bD; exact rfl; ((refine aO (i := 1) rfl cW rfl (by rfl) (by simp) (by simp [Value.oneCell']) ?_)); refine aB ?_; refine cA ?_) | (refine aE rfl rfl ?_; ((refine aC rfl ?_)); refine aB ?_))
  refine bC (.inl rfl) (dM rfl (dG (i := 1) rfl rfl rfl)) (eI _ (Sl (.slice A3 l3.length c3) l3 :: R) (fun w hs => hs.weaken bU cZ) (hk (.mk n1_0 n1_1 s2 l3) a3 (A3, c3) (by unfold wM iV; simp only [bW, h1_0, h1_1, h2, h3]; rfl) (by omega) hle3 (show dD n1_0 ∧ dD n1_1 ∧ s2.size ≤ 9223372036854775807 ∧ l3.length ≤ 9223372036854775807 from ⟨(eD h1_0).1, (eD h1_1).1, ho2, Nat.le_trans ho3.1 ho3.2⟩)))
theorem pV {w0 : World} (br : Nat) (A : Option Addr) (c : Nat) (xs : List UInt8) (hx : xs.length ≤ 250000) : Rr Tryz.prog w0 137 [.pointer (some ⟨br, 0, none⟩)] br A c xs 0 (s4 xs) nH := z9 br A c xs hx _ _ (by omega)
theorem frame_r {w0 : World} (br : Nat) (A : Option Addr) (c : Nat) (xs : List UInt8) (hx : xs.length ≤ 250000) : Rr Tryz.prog w0 91 [.pointer (some ⟨br, 0, none⟩)] br A c xs 0 (zH xs) nH := by
  intro H R K KP a hma hax hm hk hp
  refine cP Tryz.func91 rfl Tryz.ntmps91 eZ ?_
  apply aF; apply aA
  repeat' ((refine bG rfl rfl ?_; ((refine bK cW (fun b => ?_))); refine aB ?_))
  apply aG; apply aD
  revert b
  intro bt
  refine jG ?_
  repeat' (first | (apply aF) | (apply aA) | (refine aE rfl rfl ?_; ((first | refine aH ?_ | refine cM gP gP ?_)); refine aB ?_))
  refine iM rfl rfl (kY rfl br A c xs hx 137 [.pointer (some ⟨br, 0, none⟩)] 0 _ _ fQ ((pV br A c xs hx).up (by omega))) (Nat.zero_le _) hax aV (fun l1 a1 A1 c1 h1 le1 hle1 ho1 => ?_) (fun e he => ?_)
  rotate_left
  · skip
    repeat' ((apply aL))
    exact aN (cH H R (fun w hs => hs.weaken bU cZ) (hp e (by unfold zH; simp only [bW, he])))
  refine aB ?_
  repeat' (first | (apply aF) | (apply aA) | (apply aG) | (apply aD) | (apply bD; exact rfl; ((refine aO (i := 1) rfl cW rfl (by rfl) (by simp) (by simp [Value.oneCell']) ?_)); refine aB ?_; refine cA ?_) | (refine aE rfl rfl ?_; ((first | refine aH ?_ | refine aC rfl ?_ | refine cM gP gP ?_)); refine aB ?_))
  refine iM rfl rfl (kY rfl br A c xs hx 137 [.pointer (some ⟨br, 0, none⟩)] 0 _ _ fQ ((pV br A c xs hx).up (by omega))) (Nat.zero_le _) hle1 aV (fun l2 a2 A2 c2 h2 le2 hle2 ho2 => ?_) (fun e he => ?_)
  rotate_left
  · skip
    repeat' ((apply aL))
    exact aN (cH H R (fun w hs => hs.weaken bU cZ) (hp e (by unfold zH; simp only [bW, h1, he])))
  refine aB ?_
  repeat' (first | (apply aF) | (apply aA) | (apply aG) | (apply aD) | (apply bD; exact rfl; ((refine aO (i := 1) rfl cW rfl (by rfl) (by simp) (by simp [Value.oneCell']) ?_)); refine aB ?_; refine cA ?_) | (refine aE rfl rfl ?_; ((first | refine aH ?_ | refine aC rfl ?_)); refine aB ?_) | (refine bG rfl rfl ?_; ((refine bH (by decide) fD rfl (fun b => ?_))); refine aB ?_))
  refine jN [2, 3, 4] rfl rfl rfl rfl (by decide) hx hle2 aV (by simp) (fun zs3 a3 hi le3 hle3 => ?_) (fun e he => ?_)
  rotate_left
  · skip
    repeat' ((apply aL))
    refine aN (cH H R (fun w hs => hs.weaken bU cZ) (hp e ?_))
    rcases dU he with he | ⟨n0, b0, h3_0, he⟩
    · exact by unfold zH; simp only [bW, h1, h2, he]
    rcases dU he with he | ⟨n1, b1, h3_1, he⟩
    · exact by unfold zH; simp only [bW, h1, h2, h3_0, he]
    rcases dU he with he | ⟨n2, b2, h3_2, he⟩
    · exact by unfold zH; simp only [bW, h1, h2, h3_0, h3_1, he]
    cases he
  obtain ⟨n3_0, a3_0, h3_0, hi⟩ := dV hi
  obtain ⟨n3_1, a3_1, h3_1, hi⟩ := dV hi
  obtain ⟨n3_2, a3_2, h3_2, hi⟩ := dV hi
  obtain ⟨rfl, rfl⟩ := fX hi
  refine aB ?_
  refine cA ?_
  repeat' (first | (apply aF) | (apply aA) | (apply bN) | (apply aG) | (apply aD) | (apply aP; exact rfl; ((refine aM (i := 1) rfl rfl rfl ?_)); refine aB ?_) | (apply bD; exact rfl; ((refine aO (i := 1) rfl cW rfl (by rfl) (by simp) (by simp [Value.oneCell']) ?_)); refine aB ?_; refine cA ?_))
  refine bC (.inl rfl) (dM rfl (dG (i := 1) rfl rfl rfl)) (eI _ (Sl (.slice A1 l1.length c1) l1 :: Sl (.slice A2 l2.length c2) l2 :: R) (fun w hs => hs.weaken bU cZ) (hk (l1, l2, n3_0, n3_1, n3_2) a3 ((A1, c1), (A2, c2), (), (), ()) (by unfold zH; simp only [bW, h1, h2, h3_0, h3_1, h3_2]) (by omega) hle3 (show (l1.length ≤ c1 ∧ c1 ≤ dY) ∧ (l2.length ≤ c2 ∧ c2 ≤ dY) ∧ dD n3_0 ∧ dD n3_1 ∧ dD n3_2 from ⟨ho1, ho2, (eD h3_0).1, (eD h3_1).1, (eD h3_2).1⟩)))
theorem try_r {w0 : World} (br : Nat) (A : Option Addr) (c : Nat) (xs : List UInt8) (hx : xs.length ≤ 250000) : Rr Tryz.prog w0 141 [.pointer (some ⟨br, 0, none⟩)] br A c xs 0 (tyD xs) nH := by
  intro H R K KP a hma hax hm hk hp
  refine cP Tryz.func141 rfl Tryz.ntmps141 eZ ?_
  apply aF; apply aA
  repeat' ((refine bG rfl rfl ?_; ((refine bK cW (fun b => ?_))); refine aB ?_))
  apply aG; apply aD
  revert b
  intro bt
  refine jG ?_
  repeat' (first | (apply aF) | (apply aA) | (refine aE rfl rfl ?_; ((first | refine aH ?_ | refine aC rfl ?_)); refine aB ?_) | (refine bG rfl rfl ?_; ((refine bH (by decide) fD rfl (fun b => ?_))); refine aB ?_))
  refine jN [0, 1, 2] rfl rfl rfl rfl (by decide) hx hax aV (by simp) (fun zs1 a1 hi le1 hle1 => ?_) (fun e he => ?_)
  rotate_left
  · skip
    repeat' ((apply aL))
    refine aN (cH H R (fun w hs => hs.weaken bU cZ) (hp e ?_))
    rcases dU he with he | ⟨n0, b0, h1_0, he⟩
    · exact by unfold tyD; simp only [bW, he]
    rcases dU he with he | ⟨n1, b1, h1_1, he⟩
    · exact by unfold tyD; simp only [bW, h1_0, he]
    rcases dU he with he | ⟨n2, b2, h1_2, he⟩
    · exact by unfold tyD; simp only [bW, h1_0, h1_1, he]
    cases he
  obtain ⟨n1_0, a1_0, h1_0, hi⟩ := dV hi
  obtain ⟨n1_1, a1_1, h1_1, hi⟩ := dV hi
  obtain ⟨n1_2, a1_2, h1_2, hi⟩ := dV hi
  obtain ⟨rfl, rfl⟩ := fX hi
  refine aB ?_
  refine cA ?_
  repeat' (first | (apply aF) | (apply aA) | (apply bN) | (apply aG) | (apply aD) | (apply aP; exact rfl; ((refine aM (i := 1) rfl rfl rfl ?_)); refine aB ?_) | (apply bD; exact rfl; ((refine aO (i := 1) rfl cW rfl (by rfl) (by simp) (by simp [Value.oneCell']) ?_)); refine aB ?_; refine cA ?_))
  refine bC (.inl rfl) (dM rfl (dG (i := 1) rfl rfl rfl)) (eI _ (R) (fun w hs => hs.weaken bU cZ) (hk (n1_0, n1_1, n1_2) a1 ((), (), ()) (by unfold tyD; simp only [bW, h1_0, h1_1, h1_2]) (by omega) hle1 (show dD n1_0 ∧ dD n1_1 ∧ dD n1_2 from ⟨(eD h1_0).1, (eD h1_1).1, (eD h1_2).1⟩)))
end Go.Proofs.YtggdljhmbckpmaaGreat
