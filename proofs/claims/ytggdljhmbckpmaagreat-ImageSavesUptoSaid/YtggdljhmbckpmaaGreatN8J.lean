/- Decode: structs read: walks, printed by gen_rd.py. Decode: structs read: walks, printed by gen_rd.py. Decode: structs read: walks, printed by gen_rd.py. -/
import Derived.Test.YtggdljhmbckpmaaGreatX7J
set_option linter.unusedVariables false
set_option linter.unusedSimpArgs false
namespace Go.Proofs.YtggdljhmbckpmaaGreat
open Go Go.RowKit
set_option maxRecDepth 100000
set_option maxHeartbeats 3200000

theorem r6 {w0 : World} (br : Nat) (A : Option Addr) (c : Nat) (xs : List UInt8) (hx : xs.length ≤ 250000) : Rr Tryz.prog w0 93 [.pointer (some ⟨br, 0, none⟩)] br A c xs 0 (i8 xs) pD := by
  intro H R K KP a hma hax hm hk hp
  refine dE Tryz.func93 rfl Tryz.ntmps93 fI ?_
  apply aF; apply aA
  repeat' ((refine bJ rfl rfl ?_; ((refine bL cW (fun b => ?_))); refine aB ?_))
  apply aH; apply aD
  revert b
  intro bt
  refine kF ?_
  repeat' (first | (apply aF) | (apply aA) | (refine aE rfl rfl ?_; ((first | refine aG ?_ | refine aC rfl ?_)); refine aB ?_) | (refine bJ rfl rfl ?_; ((refine bK cQ fP rfl (fun b => ?_))); refine aB ?_))
  refine kS [0, 1] rfl rfl rfl rfl cQ hx hax aX dB (fun zs1 a1 hi le1 hle1 => ?_) (fun e he => ?_)
  rotate_left
  · skip
    repeat' ((apply aM))
    refine aR (cN H R dV (hp e ?_))
    rcases eM he with he | ⟨n0, b0, h1_0, he⟩
    · exact by unfold i8; simp only [cK, he]
    rcases eM he with he | ⟨n1, b1, h1_1, he⟩
    · exact by unfold i8; simp only [cK, h1_0, he]
    cases he
  obtain ⟨n1_0, a1_0, h1_0, hi⟩ := eL hi
  obtain ⟨n1_1, a1_1, h1_1, hi⟩ := eL hi
  obtain ⟨rfl, rfl⟩ := hU hi
  refine aB ?_
  refine cE ?_
  repeat' (first | (apply aF) | (apply aA) | (apply aH) | (apply aD) | (refine aE rfl rfl ?_; ((refine aG ?_)); refine aB ?_))
  refine jT rfl rfl (rP br A c xs hx) (Nat.zero_le _) hle1 aX (fun l2 a2 A2 c2 h2 le2 hle2 ho2 => ?_) (fun e he => ?_)
  rotate_left
  · skip
    repeat' ((apply aM))
    exact aR (cN H R dV (hp e (by unfold i8; simp only [cK, h1_0, h1_1, he])))
  refine aB ?_
  repeat' (first | (apply aF) | (apply aA) | (apply aH) | (apply aD) | (apply bE; exact rfl; ((refine aN (i := 1) rfl cW rfl dT dB eK ?_)); refine aB ?_; refine cE ?_) | (refine aE rfl rfl ?_; ((first | refine aG ?_ | refine aC rfl ?_)); refine aB ?_))
  refine wV rfl rfl (qN br A c xs hx) hle2 aX (fun s3 a3 h3 le3 hle3 => ?_) (fun e he => ?_)
  rotate_left
  · skip
    repeat' ((apply aM))
    exact aR (cN H R dV (hp e (by unfold i8; simp only [cK, h1_0, h1_1, h2, he])))
  refine aB ?_
  repeat' (first | (apply aF) | (apply aA) | (apply aH) | (apply aD) | (apply bE; exact rfl; ((refine aN (i := 1) rfl cW rfl dT dB eK ?_)); refine aB ?_; refine cE ?_) | (refine aE rfl rfl ?_; ((first | refine aG ?_ | refine aC rfl ?_)); refine aB ?_))
  refine jT rfl rfl (rP br A c xs hx) (Nat.zero_le _) hle3 aX (fun l4 a4 A4 c4 h4 lZ hle4 ho4 => ?_) (fun e he => ?_)
  rotate_left
  · skip
    repeat' ((apply aM))
    exact aR (cN H R dV (hp e (by unfold i8; simp only [cK, h1_0, h1_1, h2, h3, he])))
  refine aB ?_
  repeat' (first | (apply aF) | (apply aA) | (apply aH) | (apply aD) | (apply bE; exact rfl; ((refine aN (i := 1) rfl cW rfl dT dB eK ?_)); refine aB ?_; refine cE ?_) | (refine aE rfl rfl ?_; ((first | refine aG ?_ | refine aC rfl ?_)); refine aB ?_))
  refine wV rfl rfl (qN br A c xs hx) hle4 aX (fun s5 a5 h5 le5 hle5 => ?_) (fun e he => ?_)
  rotate_left
  · skip
    repeat' ((apply aM))
    exact aR (cN H R dV (hp e (by unfold i8; simp only [cK, h1_0, h1_1, h2, h3, h4, he])))
  refine aB ?_
  repeat' (first | (apply aF) | (apply aA) | (apply aH) | (apply aD) | (apply bE; exact rfl; ((refine aN (i := 1) rfl cW rfl dT dB eK ?_)); refine aB ?_; refine cE ?_) | (refine aE rfl rfl ?_; ((first | refine aG ?_ | refine aC rfl ?_)); refine aB ?_) | (refine bJ rfl rfl ?_; ((refine bK cQ fP rfl (fun b => ?_))); refine aB ?_))
  refine kS [6] rfl rfl rfl rfl cQ hx hle5 aX dB (fun zs6 a6 hi le6 hle6 => ?_) (fun e he => ?_)
  rotate_left
  · skip
    repeat' ((apply aM))
    refine aR (cN H R dV (hp e ?_))
    rcases eM he with he | ⟨n0, b0, h6_0, he⟩
    · exact by unfold i8; simp only [cK, h1_0, h1_1, h2, h3, h4, h5, he]
    cases he
  obtain ⟨n6_0, a6_0, h6_0, hi⟩ := eL hi
  obtain ⟨rfl, rfl⟩ := hU hi
  refine aB ?_
  refine cE ?_
  repeat' (first | (apply aF) | (apply aA) | (apply bP) | (apply aH) | (apply aD) | (apply aP; exact rfl; ((refine aL (i := 1) rfl rfl rfl ?_)); refine aB ?_) | (apply bE; exact rfl; ((refine aN (i := 1) rfl cW rfl dT dB eK ?_)); refine aB ?_; refine cE ?_))
  refine aZ (.inl rfl) (dP rfl (dC (i := 1) rfl rfl rfl)) (fG _ (Sl (.slice A2 l2.length c2) l2 :: Sl (.slice A4 l4.length c4) l4 :: R) dV (hk (n1_0, n1_1, l2, s3, l4, s5, n6_0) a6 ((), (), (A2, c2), (), (A4, c4), (), ()) (by unfold i8; simp only [cK, h1_0, h1_1, h2, h3, h4, h5, h6_0]) aO hle6 (show dO n1_0 ∧ dO n1_1 ∧ (l2.length ≤ c2 ∧ c2 ≤ eO) ∧ True ∧ (l4.length ≤ c4 ∧ c4 ≤ eO) ∧ True ∧ dO n6_0 from ⟨(eT h1_0).1, (eT h1_1).1, ho2, trivial, ho4, trivial, (eT h6_0).1⟩)))
theorem scope_r {w0 : World} (br : Nat) (A : Option Addr) (c : Nat) (xs : List UInt8) (hx : xs.length ≤ 250000) : Rr Tryz.prog w0 95 [.pointer (some ⟨br, 0, none⟩)] br A c xs 0 (zV xs) pD := by
  intro H R K KP a hma hax hm hk hp
  refine dE Tryz.func95 rfl Tryz.ntmps95 fI ?_
  apply aF; apply aA
  repeat' ((refine bJ rfl rfl ?_; ((refine bL cW (fun b => ?_))); refine aB ?_))
  apply aH; apply aD
  revert b
  intro bt
  refine kF ?_
  repeat' (first | (apply aF) | (apply aA) | (refine aE rfl rfl ?_; ((first | refine aG ?_ | refine aC rfl ?_)); refine aB ?_) | (refine bJ rfl rfl ?_; ((refine bK cQ fP rfl (fun b => ?_))); refine aB ?_))
  refine kS [0, 1, 2, 3] rfl rfl rfl rfl cQ hx hax aX dB (fun zs1 a1 hi le1 hle1 => ?_) (fun e he => ?_)
  rotate_left
  · skip
    repeat' ((apply aM))
    refine aR (cN H R dV (hp e ?_))
    rcases eM he with he | ⟨n0, b0, h1_0, he⟩
    · exact by unfold zV; simp only [cK, he]
    rcases eM he with he | ⟨n1, b1, h1_1, he⟩
    · exact by unfold zV; simp only [cK, h1_0, he]
    rcases eM he with he | ⟨n2, b2, h1_2, he⟩
    · exact by unfold zV; simp only [cK, h1_0, h1_1, he]
    rcases eM he with he | ⟨n3, b3, h1_3, he⟩
    · exact by unfold zV; simp only [cK, h1_0, h1_1, h1_2, he]
    cases he
  obtain ⟨n1_0, a1_0, h1_0, hi⟩ := eL hi
  obtain ⟨n1_1, a1_1, h1_1, hi⟩ := eL hi
  obtain ⟨n1_2, a1_2, h1_2, hi⟩ := eL hi
  obtain ⟨n1_3, a1_3, h1_3, hi⟩ := eL hi
  obtain ⟨rfl, rfl⟩ := hU hi
  refine aB ?_
  refine cE ?_
  repeat' (first | (apply aF) | (apply aA) | (apply aH) | (apply aD) | (refine aE rfl rfl ?_; ((first | refine aG ?_ | refine cR iE iE ?_)); refine aB ?_))
  refine jT rfl rfl (mL rfl br A c xs hx 137 [.pointer (some ⟨br, 0, none⟩)] 0 _ _ gP ((rN br A c xs hx).up aO)) (Nat.zero_le _) hle1 aX (fun l2 a2 A2 c2 h2 le2 hle2 ho2 => ?_) (fun e he => ?_)
  rotate_left
  · skip
    repeat' ((apply aM))
    exact aR (cN H R dV (hp e (by unfold zV; simp only [cK, h1_0, h1_1, h1_2, h1_3, he])))
  refine aB ?_
  repeat' (first | (apply aF) | (apply aA) | (apply aH) | (apply aD) | (apply bE; exact rfl; ((refine aN (i := 1) rfl cW rfl dT dB eK ?_)); refine aB ?_; refine cE ?_) | (refine aE rfl rfl ?_; ((first | refine aG ?_ | refine aC rfl ?_)); refine aB ?_))
  refine T_rds rfl rfl (yW br A c xs hx) hle2 aX (fun s3 a3 h3 le3 hle3 ho3 => ?_) (fun e he => ?_)
  rotate_left
  · skip
    repeat' ((apply aM))
    exact aR (cN H R dV (hp e (by unfold zV; simp only [cK, h1_0, h1_1, h1_2, h1_3, h2, he])))
  refine aB ?_
  repeat' (first | (apply aF) | (apply aA) | (apply aH) | (apply aD) | (apply bE; exact rfl; ((refine aN (i := 1) rfl cW rfl dT dB eK ?_)); refine aB ?_; refine cE ?_) | (refine aE rfl rfl ?_; ((first | refine aG ?_ | refine aC rfl ?_ | refine cR iE iE ?_)); refine aB ?_))
  refine jT rfl rfl (mL rfl br A c xs hx 137 [.pointer (some ⟨br, 0, none⟩)] 0 _ _ gP ((rN br A c xs hx).up aO)) (Nat.zero_le _) hle3 aX (fun l4 a4 A4 c4 h4 lZ hle4 ho4 => ?_) (fun e he => ?_)
  rotate_left
  · skip
    repeat' ((apply aM))
    exact aR (cN H R dV (hp e (by unfold zV; simp only [cK, h1_0, h1_1, h1_2, h1_3, h2, h3, he])))
  refine aB ?_
  repeat' (first | (apply aF) | (apply aA) | (apply bP) | (apply aH) | (apply aD) | (apply aP; exact rfl; ((refine aL (i := 1) rfl rfl rfl ?_)); refine aB ?_) | (apply bE; exact rfl; ((refine aN (i := 1) rfl cW rfl dT dB eK ?_)); refine aB ?_; refine cE ?_) | (refine aE rfl rfl ?_; ((refine aC rfl ?_)); refine aB ?_))
  refine aZ (.inl rfl) (dP rfl (dC (i := 1) rfl rfl rfl)) (fG _ (Sl (.slice A2 l2.length c2) l2 :: Sl (.slice A4 l4.length c4) l4 :: R) dV (hk (n1_0, n1_1, n1_2, n1_3, l2, s3, l4) a4 ((), (), (), (), (A2, c2), (), (A4, c4)) (by unfold zV; simp only [cK, h1_0, h1_1, h1_2, h1_3, h2, h3, h4]) aO hle4 (show dO n1_0 ∧ dO n1_1 ∧ dO n1_2 ∧ dO n1_3 ∧ (l2.length ≤ c2 ∧ c2 ≤ eO) ∧ s3.size ≤ 9223372036854775807 ∧ (l4.length ≤ c4 ∧ c4 ≤ eO) from ⟨(eT h1_0).1, (eT h1_1).1, (eT h1_2).1, (eT h1_3).1, ho2, ho3, ho4⟩)))
theorem val_r {w0 : World} (br : Nat) (A : Option Addr) (c : Nat) (xs : List UInt8) (hx : xs.length ≤ 250000) : Rr Tryz.prog w0 97 [.pointer (some ⟨br, 0, none⟩)] br A c xs 0 (vaD xs) pD := by
  intro H R K KP a hma hax hm hk hp
  refine dE Tryz.func97 rfl Tryz.ntmps97 fI ?_
  apply aF; apply aA
  repeat' ((refine bJ rfl rfl ?_; ((refine bL cW (fun b => ?_))); refine aB ?_))
  apply aH; apply aD
  revert b
  intro bt
  refine kF ?_
  repeat' (first | (apply aF) | (apply aA) | (refine aE rfl rfl ?_; ((first | refine aG ?_ | refine aC rfl ?_)); refine aB ?_) | (refine bJ rfl rfl ?_; ((refine bK cQ fP rfl (fun b => ?_))); refine aB ?_))
  refine kS [0] rfl rfl rfl rfl cQ hx hax aX dB (fun zs1 a1 hi le1 hle1 => ?_) (fun e he => ?_)
  rotate_left
  · skip
    repeat' ((apply aM))
    refine aR (cN H R dV (hp e ?_))
    rcases eM he with he | ⟨n0, b0, h1_0, he⟩
    · exact by unfold vaD; simp only [cK, he]
    cases he
  obtain ⟨n1_0, a1_0, h1_0, hi⟩ := eL hi
  obtain ⟨rfl, rfl⟩ := hU hi
  refine aB ?_
  refine cE ?_
  repeat' (first | (apply aF) | (apply aA) | (apply aH) | (apply aD) | (refine aE rfl rfl ?_; ((refine aG ?_)); refine aB ?_))
  refine T_rdtp rfl rfl (typ_r br A c xs hx) (Nat.zero_le _) hle1 aX (fun nm2 l2 a2 A2 c2 h2 le2 hle2 ho2 => ?_) (fun e he => ?_)
  rotate_left
  · skip
    repeat' ((apply aM))
    exact aR (cN H R dV (hp e (by unfold vaD; simp only [cK, h1_0, he])))
  refine aB ?_
  repeat' (first | (apply aF) | (apply aA) | (apply aH) | (apply aD) | (apply bE; exact rfl; ((refine aN (i := 1) rfl cW rfl dT dB eK ?_)); refine aB ?_; refine cE ?_) | (refine aE rfl rfl ?_; ((first | refine aG ?_ | refine aC rfl ?_)); refine aB ?_))
  refine wV rfl rfl (qN br A c xs hx) hle2 aX (fun s3 a3 h3 le3 hle3 => ?_) (fun e he => ?_)
  rotate_left
  · skip
    repeat' ((apply aM))
    exact aR (cN H R dV (hp e (by unfold vaD; simp only [cK, h1_0, h2, he])))
  refine aB ?_
  repeat' (first | (apply aF) | (apply aA) | (apply aH) | (apply aD) | (apply bE; exact rfl; ((refine aN (i := 1) rfl cW rfl dT dB eK ?_)); refine aB ?_; refine cE ?_) | (refine aE rfl rfl ?_; ((first | refine aG ?_ | refine aC rfl ?_)); refine aB ?_))
  refine T_rdtm rfl rfl (rN br A c xs hx) (Nat.zero_le _) hle3 aX (fun k4 i4 nm4 l4 a4 A4 c4 h4 lZ hle4 ho4 => ?_) (fun e he => ?_)
  rotate_left
  · skip
    repeat' ((apply aM))
    exact aR (cN H R dV (hp e (by unfold vaD; simp only [cK, h1_0, h2, h3, he])))
  refine aB ?_
  repeat' (first | (apply aF) | (apply aA) | (apply bP) | (apply aH) | (apply aD) | (apply aP; exact rfl; ((refine aL (i := 1) rfl rfl rfl ?_)); refine aB ?_) | (apply bE; exact rfl; ((refine aN (i := 1) rfl cW rfl dT dB eK ?_)); refine aB ?_; refine cE ?_) | (refine aE rfl rfl ?_; ((refine aC rfl ?_)); refine aB ?_))
  refine aZ (.inl rfl) (dP rfl (dC (i := 1) rfl rfl rfl)) (fG _ (Sl (.slice A2 l2.length c2) l2 :: Sl (.slice A4 l4.length c4) l4 :: R) dV (hk (n1_0, .mk nm2 l2, s3, .mk k4 i4 nm4 l4) a4 ((), (A2, c2), (), (A4, c4)) (by unfold vaD; simp only [cK, h1_0, h2, h3, h4]) aO hle4 (show dO n1_0 ∧ (nm2.size ≤ 9223372036854775807 ∧ l2.length ≤ 9223372036854775807) ∧ True ∧ (dO k4 ∧ dO i4 ∧ nm4.size ≤ 9223372036854775807 ∧ l4.length ≤ 9223372036854775807) from ⟨(eT h1_0).1, ho2, trivial, ho4⟩)))
theorem trail_r {w0 : World} (br : Nat) (A : Option Addr) (c : Nat) (xs : List UInt8) (hx : xs.length ≤ 250000) : Rr Tryz.prog w0 99 [.pointer (some ⟨br, 0, none⟩)] br A c xs 0 (trD xs) pD := by
  intro H R K KP a hma hax hm hk hp
  refine dE Tryz.func99 rfl Tryz.ntmps99 fI ?_
  apply aF; apply aA
  repeat' ((refine bJ rfl rfl ?_; ((refine bL cW (fun b => ?_))); refine aB ?_))
  apply aH; apply aD
  revert b
  intro bt
  refine kF ?_
  repeat' (first | (apply aF) | (apply aA) | (refine aE rfl rfl ?_; ((first | refine aG ?_ | refine aC rfl ?_)); refine aB ?_) | (refine bJ rfl rfl ?_; ((refine bK cQ fP rfl (fun b => ?_))); refine aB ?_))
  refine kS [0] rfl rfl rfl rfl cQ hx hax aX dB (fun zs1 a1 hi le1 hle1 => ?_) (fun e he => ?_)
  rotate_left
  · skip
    repeat' ((apply aM))
    refine aR (cN H R dV (hp e ?_))
    rcases eM he with he | ⟨n0, b0, h1_0, he⟩
    · exact by unfold trD; simp only [cK, he]
    cases he
  obtain ⟨n1_0, a1_0, h1_0, hi⟩ := eL hi
  obtain ⟨rfl, rfl⟩ := hU hi
  refine aB ?_
  refine cE ?_
  repeat' (first | (apply aF) | (apply aA) | (apply aH) | (apply aD) | (refine aE rfl rfl ?_; ((refine aG ?_)); refine aB ?_))
  refine T_rdva rfl rfl (val_r br A c xs hx) (Nat.zero_le _) hle1 aX (fun lv2 tn2 tx2 bo2 k2 i2 nm2 l2 a2 A2 c2 B2 e2 h2 le2 hle2 ho2 => ?_) (fun e he => ?_)
  rotate_left
  · skip
    repeat' ((apply aM))
    exact aR (cN H R dV (hp e (by unfold trD; simp only [cK, h1_0, he])))
  refine aB ?_
  repeat' (first | (apply aF) | (apply aA) | (apply bP) | (apply aH) | (apply aD) | (apply aP; exact rfl; ((refine aL (i := 1) rfl rfl rfl ?_)); refine aB ?_) | (apply bE; exact rfl; ((refine aN (i := 1) rfl cW rfl dT dB eK ?_)); refine aB ?_; refine cE ?_) | (refine aE rfl rfl ?_; ((refine aC rfl ?_)); refine aB ?_))
  refine aZ (.inl rfl) (dP rfl (dC (i := 1) rfl rfl rfl)) (fG _ (Sl (.slice A2 tx2.length c2) tx2 :: Sl (.slice B2 l2.length e2) l2 :: R) dV (hk (n1_0, (lv2, .mk tn2 tx2, bo2, .mk k2 i2 nm2 l2)) a2 ((), ((), (A2, c2), (), (B2, e2))) (by unfold trD; simp only [cK, h1_0, h2]) aO hle2 (show dO n1_0 ∧ (dO lv2 ∧ (tn2.size ≤ 9223372036854775807 ∧ tx2.length ≤ 9223372036854775807) ∧ True ∧ (dO k2 ∧ dO i2 ∧ nm2.size ≤ 9223372036854775807 ∧ l2.length ≤ 9223372036854775807)) from ⟨(eT h1_0).1, ho2⟩)))
end Go.Proofs.YtggdljhmbckpmaaGreat
namespace Go.Proofs.YtggdljhmbckpmaaGreat
open Go Go.RowKit
set_option maxRecDepth 100000
set_option maxHeartbeats 3200000

theorem choice_r {w0 : World} (br : Nat) (A : Option Addr) (c : Nat) (xs : List UInt8) (hx : xs.length ≤ 250000) : Rr Tryz.prog w0 101 [.pointer (some ⟨br, 0, none⟩)] br A c xs 0 (sR xs) pD := by
  intro H R K KP a hma hax hm hk hp
  refine dE Tryz.func101 rfl Tryz.ntmps101 fI ?_
  apply aF; apply aA
  repeat' ((refine bJ rfl rfl ?_; ((refine bL cW (fun b => ?_))); refine aB ?_))
  apply aH; apply aD
  revert b
  intro bt
  refine kF ?_
  repeat' (first | (apply aF) | (apply aA) | (refine aE rfl rfl ?_; ((first | refine aG ?_ | refine aC rfl ?_)); refine aB ?_) | (refine bJ rfl rfl ?_; ((refine bK cQ fP rfl (fun b => ?_))); refine aB ?_))
  refine kS [0] rfl rfl rfl rfl cQ hx hax aX dB (fun zs1 a1 hi le1 hle1 => ?_) (fun e he => ?_)
  rotate_left
  · skip
    repeat' ((apply aM))
    refine aR (cN H R dV (hp e ?_))
    rcases eM he with he | ⟨n0, b0, h1_0, he⟩
    · exact by unfold sR; simp only [cK, he]
    cases he
  obtain ⟨n1_0, a1_0, h1_0, hi⟩ := eL hi
  obtain ⟨rfl, rfl⟩ := hU hi
  refine aB ?_
  refine cE ?_
  repeat' (first | (apply aF) | (apply aA) | (apply aH) | (apply aD) | (refine aE rfl rfl ?_; ((first | refine aG ?_ | refine cR iE iE ?_)); refine aB ?_))
  refine jT rfl rfl (get117_r rfl br A c xs hx 141 [.pointer (some ⟨br, 0, none⟩)] 0 _ _ gP ((try_r br A c xs hx).up aO)) (Nat.zero_le _) hle1 aX (fun l2 a2 A2 c2 h2 le2 hle2 ho2 => ?_) (fun e he => ?_)
  rotate_left
  · skip
    repeat' ((apply aM))
    exact aR (cN H R dV (hp e (by unfold sR; simp only [cK, h1_0, he])))
  refine aB ?_
  repeat' (first | (apply aF) | (apply aA) | (apply aH) | (apply aD) | (apply bE; exact rfl; ((refine aN (i := 1) rfl cW rfl dT dB eK ?_)); refine aB ?_; refine cE ?_) | (refine aE rfl rfl ?_; ((first | refine aG ?_ | refine aC rfl ?_ | refine cR iE iE ?_)); refine aB ?_))
  refine jT rfl rfl (mL rfl br A c xs hx 137 [.pointer (some ⟨br, 0, none⟩)] 0 _ _ gP ((rN br A c xs hx).up aO)) (Nat.zero_le _) hle2 aX (fun l3 a3 A3 c3 h3 le3 hle3 ho3 => ?_) (fun e he => ?_)
  rotate_left
  · skip
    repeat' ((apply aM))
    exact aR (cN H R dV (hp e (by unfold sR; simp only [cK, h1_0, h2, he])))
  refine aB ?_
  repeat' (first | (apply aF) | (apply aA) | (apply aH) | (apply aD) | (apply bE; exact rfl; ((refine aN (i := 1) rfl cW rfl dT dB eK ?_)); refine aB ?_; refine cE ?_) | (refine aE rfl rfl ?_; ((first | refine aG ?_ | refine aC rfl ?_)); refine aB ?_) | (refine bJ rfl rfl ?_; ((refine bK cQ fP rfl (fun b => ?_))); refine aB ?_))
  refine kS [3, 4, 5, 6, 7, 8, 9] rfl rfl rfl rfl cQ hx hle3 aX dB (fun zs4 a4 hi lZ hle4 => ?_) (fun e he => ?_)
  rotate_left
  · skip
    repeat' ((apply aM))
    refine aR (cN H R dV (hp e ?_))
    rcases eM he with he | ⟨n0, b0, h4_0, he⟩
    · exact by unfold sR; simp only [cK, h1_0, h2, h3, he]
    rcases eM he with he | ⟨n1, b1, h4_1, he⟩
    · exact by unfold sR; simp only [cK, h1_0, h2, h3, h4_0, he]
    rcases eM he with he | ⟨n2, b2, h4_2, he⟩
    · exact by unfold sR; simp only [cK, h1_0, h2, h3, h4_0, h4_1, he]
    rcases eM he with he | ⟨n3, b3, h4_3, he⟩
    · exact by unfold sR; simp only [cK, h1_0, h2, h3, h4_0, h4_1, h4_2, he]
    rcases eM he with he | ⟨n4, b4, h4_4, he⟩
    · exact by unfold sR; simp only [cK, h1_0, h2, h3, h4_0, h4_1, h4_2, h4_3, he]
    rcases eM he with he | ⟨n5, b5, h4_5, he⟩
    · exact by unfold sR; simp only [cK, h1_0, h2, h3, h4_0, h4_1, h4_2, h4_3, h4_4, he]
    rcases eM he with he | ⟨n6, b6, h4_6, he⟩
    · exact by unfold sR; simp only [cK, h1_0, h2, h3, h4_0, h4_1, h4_2, h4_3, h4_4, h4_5, he]
    cases he
  obtain ⟨n4_0, a4_0, h4_0, hi⟩ := eL hi
  obtain ⟨n4_1, a4_1, h4_1, hi⟩ := eL hi
  obtain ⟨n4_2, a4_2, h4_2, hi⟩ := eL hi
  obtain ⟨n4_3, a4_3, h4_3, hi⟩ := eL hi
  obtain ⟨n4_4, a4_4, h4_4, hi⟩ := eL hi
  obtain ⟨n4_5, a4_5, h4_5, hi⟩ := eL hi
  obtain ⟨n4_6, a4_6, h4_6, hi⟩ := eL hi
  obtain ⟨rfl, rfl⟩ := hU hi
  refine aB ?_
  refine cE ?_
  repeat' (first | (apply aF) | (apply aA) | (apply aH) | (apply aD) | (refine aE rfl rfl ?_; ((refine aG ?_)); refine aB ?_))
  refine wV rfl rfl (qN br A c xs hx) hle4 aX (fun s5 a5 h5 le5 hle5 => ?_) (fun e he => ?_)
  rotate_left
  · skip
    repeat' ((apply aM))
    exact aR (cN H R dV (hp e (by unfold sR; simp only [cK, h1_0, h2, h3, h4_0, h4_1, h4_2, h4_3, h4_4, h4_5, h4_6, he])))
  refine aB ?_
  repeat' (first | (apply aF) | (apply aA) | (apply aH) | (apply aD) | (apply bE; exact rfl; ((refine aN (i := 1) rfl cW rfl dT dB eK ?_)); refine aB ?_; refine cE ?_) | (refine aE rfl rfl ?_; ((first | refine aG ?_ | refine aC rfl ?_)); refine aB ?_))
  refine jT rfl rfl (rP br A c xs hx) (Nat.zero_le _) hle5 aX (fun l6 a6 A6 c6 h6 le6 hle6 ho6 => ?_) (fun e he => ?_)
  rotate_left
  · skip
    repeat' ((apply aM))
    exact aR (cN H R dV (hp e (by unfold sR; simp only [cK, h1_0, h2, h3, h4_0, h4_1, h4_2, h4_3, h4_4, h4_5, h4_6, h5, he])))
  refine aB ?_
  repeat' (first | (apply aF) | (apply aA) | (apply aH) | (apply aD) | (apply bE; exact rfl; ((refine aN (i := 1) rfl cW rfl dT dB eK ?_)); refine aB ?_; refine cE ?_) | (refine aE rfl rfl ?_; ((first | refine aG ?_ | refine aC rfl ?_)); refine aB ?_))
  refine jT rfl rfl (rP br A c xs hx) (Nat.zero_le _) hle6 aX (fun l7 a7 A7 c7 h7 le7 hle7 ho7 => ?_) (fun e he => ?_)
  rotate_left
  · skip
    repeat' ((apply aM))
    exact aR (cN H R dV (hp e (by unfold sR; simp only [cK, h1_0, h2, h3, h4_0, h4_1, h4_2, h4_3, h4_4, h4_5, h4_6, h5, h6, he])))
  refine aB ?_
  repeat' (first | (apply aF) | (apply aA) | (apply aH) | (apply aD) | (apply bE; exact rfl; ((refine aN (i := 1) rfl cW rfl dT dB eK ?_)); refine aB ?_; refine cE ?_) | (refine aE rfl rfl ?_; ((first | refine aG ?_ | refine aC rfl ?_)); refine aB ?_) | (refine bJ rfl rfl ?_; ((refine bK cQ fP rfl (fun b => ?_))); refine aB ?_))
  refine kS [13, 14, 15, 16, 17] rfl rfl rfl rfl cQ hx hle7 aX dB (fun zs8 a8 hi le8 hle8 => ?_) (fun e he => ?_)
  rotate_left
  · skip
    repeat' ((apply aM))
    refine aR (cN H R dV (hp e ?_))
    rcases eM he with he | ⟨n0, b0, h8_0, he⟩
    · exact by unfold sR; simp only [cK, h1_0, h2, h3, h4_0, h4_1, h4_2, h4_3, h4_4, h4_5, h4_6, h5, h6, h7, he]
    rcases eM he with he | ⟨n1, b1, h8_1, he⟩
    · exact by unfold sR; simp only [cK, h1_0, h2, h3, h4_0, h4_1, h4_2, h4_3, h4_4, h4_5, h4_6, h5, h6, h7, h8_0, he]
    rcases eM he with he | ⟨n2, b2, h8_2, he⟩
    · exact by unfold sR; simp only [cK, h1_0, h2, h3, h4_0, h4_1, h4_2, h4_3, h4_4, h4_5, h4_6, h5, h6, h7, h8_0, h8_1, he]
    rcases eM he with he | ⟨n3, b3, h8_3, he⟩
    · exact by unfold sR; simp only [cK, h1_0, h2, h3, h4_0, h4_1, h4_2, h4_3, h4_4, h4_5, h4_6, h5, h6, h7, h8_0, h8_1, h8_2, he]
    rcases eM he with he | ⟨n4, b4, h8_4, he⟩
    · exact by unfold sR; simp only [cK, h1_0, h2, h3, h4_0, h4_1, h4_2, h4_3, h4_4, h4_5, h4_6, h5, h6, h7, h8_0, h8_1, h8_2, h8_3, he]
    cases he
  obtain ⟨n8_0, a8_0, h8_0, hi⟩ := eL hi
  obtain ⟨n8_1, a8_1, h8_1, hi⟩ := eL hi
  obtain ⟨n8_2, a8_2, h8_2, hi⟩ := eL hi
  obtain ⟨n8_3, a8_3, h8_3, hi⟩ := eL hi
  obtain ⟨n8_4, a8_4, h8_4, hi⟩ := eL hi
  obtain ⟨rfl, rfl⟩ := hU hi
  refine aB ?_
  refine cE ?_
  repeat' (first | (apply aF) | (apply aA) | (apply bP) | (apply aH) | (apply aD) | (apply aP; exact rfl; ((refine aL (i := 1) rfl rfl rfl ?_)); refine aB ?_) | (apply bE; exact rfl; ((refine aN (i := 1) rfl cW rfl dT dB eK ?_)); refine aB ?_; refine cE ?_))
  refine aZ (.inl rfl) (dP rfl (dC (i := 1) rfl rfl rfl)) (fG _ (Sl (.slice A2 l2.length c2) l2 :: Sl (.slice A3 l3.length c3) l3 :: Sl (.slice A6 l6.length c6) l6 :: Sl (.slice A7 l7.length c7) l7 :: R) dV (hk (n1_0, l2, l3, n4_0, n4_1, n4_2, n4_3, n4_4, n4_5, n4_6, s5, l6, l7, n8_0, n8_1, n8_2, n8_3, n8_4) a8 ((), (A2, c2), (A3, c3), (), (), (), (), (), (), (), (), (A6, c6), (A7, c7), (), (), (), (), ()) (by unfold sR; simp only [cK, h1_0, h2, h3, h4_0, h4_1, h4_2, h4_3, h4_4, h4_5, h4_6, h5, h6, h7, h8_0, h8_1, h8_2, h8_3, h8_4]) aO hle8 (show dO n1_0 ∧ (l2.length ≤ c2 ∧ c2 ≤ eO) ∧ (l3.length ≤ c3 ∧ c3 ≤ eO) ∧ dO n4_0 ∧ dO n4_1 ∧ dO n4_2 ∧ dO n4_3 ∧ dO n4_4 ∧ dO n4_5 ∧ dO n4_6 ∧ True ∧ (l6.length ≤ c6 ∧ c6 ≤ eO) ∧ (l7.length ≤ c7 ∧ c7 ≤ eO) ∧ dO n8_0 ∧ dO n8_1 ∧ dO n8_2 ∧ dO n8_3 ∧ dO n8_4 from ⟨(eT h1_0).1, ho2, ho3, (eT h4_0).1, (eT h4_1).1, (eT h4_2).1, (eT h4_3).1, (eT h4_4).1, (eT h4_5).1, (eT h4_6).1, trivial, ho6, ho7, (eT h8_0).1, (eT h8_1).1, (eT h8_2).1, (eT h8_3).1, (eT h8_4).1⟩)))
end Go.Proofs.YtggdljhmbckpmaaGreat
namespace Go.Proofs.YtggdljhmbckpmaaGreat
open Go Go.RowKit
set_option maxRecDepth 100000
set_option maxHeartbeats 3200000

theorem state_r {w0 : World} (br : Nat) (A : Option Addr) (c : Nat) (xs : List UInt8) (hx : xs.length ≤ 250000) : Rr Tryz.prog w0 39 [.pointer (some ⟨br, 0, none⟩)] br A c xs 0 (sT xs) pD := by
  intro H R K KP a hma hax hm hk hp
  refine dE Tryz.func39 rfl Tryz.ntmps39 fI ?_
  apply aF; apply aA
  repeat' ((refine bJ rfl rfl ?_; ((refine bL cW (fun b => ?_))); refine aB ?_))
  apply aH; apply aD
  revert b
  intro bt
  refine kF ?_
  repeat' (first | (apply aF) | (apply aA) | (refine aE rfl rfl ?_; ((first | refine aG ?_ | refine aC rfl ?_)); refine aB ?_) | (refine bJ rfl rfl ?_; ((refine bK cQ fP rfl (fun b => ?_))); refine aB ?_))
  refine kS [0, 1, 2, 3, 4, 5] rfl rfl rfl rfl cQ hx hax aX dB (fun zs1 a1 hi le1 hle1 => ?_) (fun e he => ?_)
  rotate_left
  · skip
    repeat' ((apply aM))
    refine aR (cN H R dV (hp e ?_))
    rcases eM he with he | ⟨n0, b0, h1_0, he⟩
    · exact by unfold sT; simp only [cK, he]
    rcases eM he with he | ⟨n1, b1, h1_1, he⟩
    · exact by unfold sT; simp only [cK, h1_0, he]
    rcases eM he with he | ⟨n2, b2, h1_2, he⟩
    · exact by unfold sT; simp only [cK, h1_0, h1_1, he]
    rcases eM he with he | ⟨n3, b3, h1_3, he⟩
    · exact by unfold sT; simp only [cK, h1_0, h1_1, h1_2, he]
    rcases eM he with he | ⟨n4, b4, h1_4, he⟩
    · exact by unfold sT; simp only [cK, h1_0, h1_1, h1_2, h1_3, he]
    rcases eM he with he | ⟨n5, b5, h1_5, he⟩
    · exact by unfold sT; simp only [cK, h1_0, h1_1, h1_2, h1_3, h1_4, he]
    cases he
  obtain ⟨n1_0, a1_0, h1_0, hi⟩ := eL hi
  obtain ⟨n1_1, a1_1, h1_1, hi⟩ := eL hi
  obtain ⟨n1_2, a1_2, h1_2, hi⟩ := eL hi
  obtain ⟨n1_3, a1_3, h1_3, hi⟩ := eL hi
  obtain ⟨n1_4, a1_4, h1_4, hi⟩ := eL hi
  obtain ⟨n1_5, a1_5, h1_5, hi⟩ := eL hi
  obtain ⟨rfl, rfl⟩ := hU hi
  refine aB ?_
  refine cE ?_
  repeat' (first | (apply aF) | (apply aA) | (apply aH) | (apply aD) | (refine aE rfl rfl ?_; ((refine aG ?_)); refine aB ?_))
  refine wV rfl rfl (qN br A c xs hx) hle1 aX (fun s2 a2 h2 le2 hle2 => ?_) (fun e he => ?_)
  rotate_left
  · skip
    repeat' ((apply aM))
    exact aR (cN H R dV (hp e (by unfold sT; simp only [cK, h1_0, h1_1, h1_2, h1_3, h1_4, h1_5, he])))
  refine aB ?_
  repeat' (first | (apply aF) | (apply aA) | (apply aH) | (apply aD) | (apply bE; exact rfl; ((refine aN (i := 1) rfl cW rfl dT dB eK ?_)); refine aB ?_; refine cE ?_) | (refine aE rfl rfl ?_; ((first | refine aG ?_ | refine aC rfl ?_)); refine aB ?_))
  refine jT rfl rfl (rP br A c xs hx) (Nat.zero_le _) hle2 aX (fun l3 a3 A3 c3 h3 le3 hle3 ho3 => ?_) (fun e he => ?_)
  rotate_left
  · skip
    repeat' ((apply aM))
    exact aR (cN H R dV (hp e (by unfold sT; simp only [cK, h1_0, h1_1, h1_2, h1_3, h1_4, h1_5, h2, he])))
  refine aB ?_
  repeat' (first | (apply aF) | (apply aA) | (apply aH) | (apply aD) | (apply bE; exact rfl; ((refine aN (i := 1) rfl cW rfl dT dB eK ?_)); refine aB ?_; refine cE ?_) | (refine aE rfl rfl ?_; ((first | refine aG ?_ | refine aC rfl ?_)); refine aB ?_))
  refine jT rfl rfl (rP br A c xs hx) (Nat.zero_le _) hle3 aX (fun l4 a4 A4 c4 h4 lZ hle4 ho4 => ?_) (fun e he => ?_)
  rotate_left
  · skip
    repeat' ((apply aM))
    exact aR (cN H R dV (hp e (by unfold sT; simp only [cK, h1_0, h1_1, h1_2, h1_3, h1_4, h1_5, h2, h3, he])))
  refine aB ?_
  repeat' (first | (apply aF) | (apply aA) | (apply aH) | (apply aD) | (apply bE; exact rfl; ((refine aN (i := 1) rfl cW rfl dT dB eK ?_)); refine aB ?_; refine cE ?_) | (refine aE rfl rfl ?_; ((first | refine aG ?_ | refine aC rfl ?_ | refine cR iE iE ?_)); refine aB ?_))
  refine jT rfl rfl (get83_r rfl br A c xs hx 91 [.pointer (some ⟨br, 0, none⟩)] 0 _ _ gP ((frame_r br A c xs hx).up aO)) (Nat.zero_le _) hle4 aX (fun l5 a5 A5 c5 h5 le5 hle5 ho5 => ?_) (fun e he => ?_)
  rotate_left
  · skip
    repeat' ((apply aM))
    exact aR (cN H R dV (hp e (by unfold sT; simp only [cK, h1_0, h1_1, h1_2, h1_3, h1_4, h1_5, h2, h3, h4, he])))
  refine aB ?_
  repeat' (first | (apply aF) | (apply aA) | (apply aH) | (apply aD) | (apply bE; exact rfl; ((refine aN (i := 1) rfl cW rfl dT dB eK ?_)); refine aB ?_; refine cE ?_) | (refine aE rfl rfl ?_; ((first | refine aG ?_ | refine aC rfl ?_ | refine cR iE iE ?_)); refine aB ?_))
  refine jT rfl rfl (get85_r rfl br A c xs hx 93 [.pointer (some ⟨br, 0, none⟩)] 0 _ _ gP ((r6 br A c xs hx).up aO)) (Nat.zero_le _) hle5 aX (fun l6 a6 A6 c6 h6 le6 hle6 ho6 => ?_) (fun e he => ?_)
  rotate_left
  · skip
    repeat' ((apply aM))
    exact aR (cN H R dV (hp e (by unfold sT; simp only [cK, h1_0, h1_1, h1_2, h1_3, h1_4, h1_5, h2, h3, h4, h5, he])))
  refine aB ?_
  repeat' (first | (apply aF) | (apply aA) | (apply aH) | (apply aD) | (apply bE; exact rfl; ((refine aN (i := 1) rfl cW rfl dT dB eK ?_)); refine aB ?_; refine cE ?_) | (refine aE rfl rfl ?_; ((first | refine aG ?_ | refine aC rfl ?_ | refine cR iE iE ?_)); refine aB ?_))
  refine jT rfl rfl (get87_r rfl br A c xs hx 95 [.pointer (some ⟨br, 0, none⟩)] 0 _ _ gP ((scope_r br A c xs hx).up aO)) (Nat.zero_le _) hle6 aX (fun l7 a7 A7 c7 h7 le7 hle7 ho7 => ?_) (fun e he => ?_)
  rotate_left
  · skip
    repeat' ((apply aM))
    exact aR (cN H R dV (hp e (by unfold sT; simp only [cK, h1_0, h1_1, h1_2, h1_3, h1_4, h1_5, h2, h3, h4, h5, h6, he])))
  refine aB ?_
  repeat' (first | (apply aF) | (apply aA) | (apply aH) | (apply aD) | (apply bE; exact rfl; ((refine aN (i := 1) rfl cW rfl dT dB eK ?_)); refine aB ?_; refine cE ?_) | (refine aE rfl rfl ?_; ((first | refine aG ?_ | refine aC rfl ?_ | refine cR iE iE ?_)); refine aB ?_))
  refine jT rfl rfl (get89_r rfl br A c xs hx 97 [.pointer (some ⟨br, 0, none⟩)] 0 _ _ gP ((val_r br A c xs hx).up aO)) (Nat.zero_le _) hle7 aX (fun l8 a8 A8 c8 h8 le8 hle8 ho8 => ?_) (fun e he => ?_)
  rotate_left
  · skip
    repeat' ((apply aM))
    exact aR (cN H R dV (hp e (by unfold sT; simp only [cK, h1_0, h1_1, h1_2, h1_3, h1_4, h1_5, h2, h3, h4, h5, h6, h7, he])))
  refine aB ?_
  repeat' (first | (apply aF) | (apply aA) | (apply aH) | (apply aD) | (apply bE; exact rfl; ((refine aN (i := 1) rfl cW rfl dT dB eK ?_)); refine aB ?_; refine cE ?_) | (refine aE rfl rfl ?_; ((first | refine aG ?_ | refine aC rfl ?_ | refine cR iE iE ?_)); refine aB ?_))
  refine jT rfl rfl (get91_r rfl br A c xs hx 99 [.pointer (some ⟨br, 0, none⟩)] 0 _ _ gP ((trail_r br A c xs hx).up aO)) (Nat.zero_le _) hle8 aX (fun l9 a9 A9 c9 h9 le9 hle9 ho9 => ?_) (fun e he => ?_)
  rotate_left
  · skip
    repeat' ((apply aM))
    exact aR (cN H R dV (hp e (by unfold sT; simp only [cK, h1_0, h1_1, h1_2, h1_3, h1_4, h1_5, h2, h3, h4, h5, h6, h7, h8, he])))
  refine aB ?_
  repeat' (first | (apply aF) | (apply aA) | (apply aH) | (apply aD) | (apply bE; exact rfl; ((refine aN (i := 1) rfl cW rfl dT dB eK ?_)); refine aB ?_; refine cE ?_) | (refine aE rfl rfl ?_; ((first | refine aG ?_ | refine aC rfl ?_ | refine cR iE iE ?_)); refine aB ?_))
  refine jT rfl rfl (get93_r rfl br A c xs hx 101 [.pointer (some ⟨br, 0, none⟩)] 0 _ _ gP ((choice_r br A c xs hx).up aO)) (Nat.zero_le _) hle9 aX (fun l10 a10 A10 c10 h10 le10 hle10 ho10 => ?_) (fun e he => ?_)
  rotate_left
  · skip
    repeat' ((apply aM))
    exact aR (cN H R dV (hp e (by unfold sT; simp only [cK, h1_0, h1_1, h1_2, h1_3, h1_4, h1_5, h2, h3, h4, h5, h6, h7, h8, h9, he])))
  refine aB ?_
  repeat' (first | (apply aF) | (apply aA) | (apply aH) | (apply aD) | (apply bE; exact rfl; ((refine aN (i := 1) rfl cW rfl dT dB eK ?_)); refine aB ?_; refine cE ?_) | (refine aE rfl rfl ?_; ((first | refine aG ?_ | refine aC rfl ?_)); refine aB ?_) | (refine bJ rfl rfl ?_; ((refine bK cQ fP rfl (fun b => ?_))); refine aB ?_))
  refine kS [15] rfl rfl rfl rfl cQ hx hle10 aX dB (fun zs11 a11 hi le11 hle11 => ?_) (fun e he => ?_)
  rotate_left
  · skip
    repeat' ((apply aM))
    refine aR (cN H R dV (hp e ?_))
    rcases eM he with he | ⟨n0, b0, h11_0, he⟩
    · exact by unfold sT; simp only [cK, h1_0, h1_1, h1_2, h1_3, h1_4, h1_5, h2, h3, h4, h5, h6, h7, h8, h9, h10, he]
    cases he
  obtain ⟨n11_0, a11_0, h11_0, hi⟩ := eL hi
  obtain ⟨rfl, rfl⟩ := hU hi
  refine aB ?_
  refine cE ?_
  repeat' (first | (apply aF) | (apply aA) | (apply bP) | (apply aH) | (apply aD) | (apply aP; exact rfl; ((refine aL (i := 1) rfl rfl rfl ?_)); refine aB ?_) | (apply bE; exact rfl; ((refine aN (i := 1) rfl cW rfl dT dB eK ?_)); refine aB ?_; refine cE ?_))
  refine aZ (.inl rfl) (dP rfl (dC (i := 1) rfl rfl rfl)) (fG _ (Sl (.slice A3 l3.length c3) l3 :: Sl (.slice A4 l4.length c4) l4 :: Sl (.slice A5 l5.length c5) l5 :: Sl (.slice A6 l6.length c6) l6 :: Sl (.slice A7 l7.length c7) l7 :: Sl (.slice A8 l8.length c8) l8 :: Sl (.slice A9 l9.length c9) l9 :: Sl (.slice A10 l10.length c10) l10 :: R) dV (hk (n1_0, n1_1, n1_2, n1_3, n1_4, n1_5, s2, l3, l4, l5, l6, l7, l8, l9, l10, n11_0) a11 ((), (), (), (), (), (), (), (A3, c3), (A4, c4), (A5, c5), (A6, c6), (A7, c7), (A8, c8), (A9, c9), (A10, c10), ()) (by unfold sT; simp only [cK, h1_0, h1_1, h1_2, h1_3, h1_4, h1_5, h2, h3, h4, h5, h6, h7, h8, h9, h10, h11_0]) aO hle11 (show dO n1_0 ∧ dO n1_1 ∧ dO n1_2 ∧ dO n1_3 ∧ dO n1_4 ∧ dO n1_5 ∧ True ∧ (l3.length ≤ c3 ∧ c3 ≤ eO) ∧ (l4.length ≤ c4 ∧ c4 ≤ eO) ∧ (l5.length ≤ c5 ∧ c5 ≤ eO) ∧ (l6.length ≤ c6 ∧ c6 ≤ eO) ∧ (l7.length ≤ c7 ∧ c7 ≤ eO) ∧ (l8.length ≤ c8 ∧ c8 ≤ eO) ∧ (l9.length ≤ c9 ∧ c9 ≤ eO) ∧ (l10.length ≤ c10 ∧ c10 ≤ eO) ∧ dO n11_0 from ⟨(eT h1_0).1, (eT h1_1).1, (eT h1_2).1, (eT h1_3).1, (eT h1_4).1, (eT h1_5).1, trivial, ho3, ho4, ho5, ho6, ho7, ho8, ho9, ho10, (eT h11_0).1⟩)))
end Go.Proofs.YtggdljhmbckpmaaGreat
