/- The reference's reader: structs: walks, printed by gen_vf.py. The reference's reader: choices: walks, printed by gen_vf.py. -/
import Derived.Test.YtggdljhmbckpmaaGreatV5
set_option linter.unusedVariables false
set_option linter.unusedSimpArgs false
namespace Go.Proofs.YtggdljhmbckpmaaGreat
open Go Go.RowKit
set_option maxRecDepth 100000
set_option maxHeartbeats 6400000

theorem val_f {w0 : World} (br : Nat) (A : Option Addr) (c : Nat) (xs : List UInt8) (hx : xs.length ≤ 250000) : Rf Tryz.prog w0 106 [.pointer (some ⟨br, 0, none⟩)] br A c xs 0 (vaD xs) pD := by
  intro H R K a b0 o hma hax hm hk
  refine bV Tryz.func106 rfl Tryz.ntmps106 fI ?_
  apply aF; apply aA
  repeat' ((refine bJ rfl rfl ?_; ((refine bL cW (fun b => ?_))); refine aB ?_))
  apply aH; apply aD
  revert b
  intro bz
  apply aF; apply aA
  repeat' ((refine bJ rfl rfl ?_; ((refine bL cW (fun b => ?_))); refine aB ?_))
  apply aH; apply aD
  revert b
  intro bt
  refine nU ?_
  repeat' (first | (apply aF) | (apply aA) | (refine aE rfl rfl ?_; ((refine aG ?_)); refine aB ?_))
  refine gI rfl rfl (eG br A c xs hx) (fun _ => Nat.zero_le _) hax aX (fun x1 a1 b1 o1 h1 le1 hle1 ok1 => ?_)
  refine aB ?_
  repeat' (first | (apply aF) | (apply aA) | (apply aH) | (apply aD) | (apply bE; exact rfl; ((refine aN (i := 1) rfl cW rfl dT dB eK ?_)); refine aB ?_; refine cE ?_) | (refine aE rfl rfl ?_; ((first | refine aG ?_ | refine aC rfl ?_)); refine aB ?_))
  refine T_rftp rfl rfl (typ_f br A c xs hx) (fun _ => Nat.zero_le _) hle1 aX (fun x2s x2 a2 b2 o2 A2 c2 h2 le2 hle2 ok2 => ?_)
  refine aB ?_
  repeat' (first | (apply aF) | (apply aA) | (apply aH) | (apply aD) | (apply bE; exact rfl; ((refine aN (i := 1) rfl cW rfl dT dB eK ?_)); refine aB ?_; refine cE ?_) | (refine aE rfl rfl ?_; ((first | refine aG ?_ | refine aC rfl ?_)); refine aB ?_))
  refine wS rfl rfl (qM br A c xs hx) (fun _ => Nat.zero_le _) hle2 aX (fun x3 a3 b3 o3 h3 le3 hle3 ok3 => ?_)
  refine aB ?_
  repeat' (first | (apply aF) | (apply aA) | (apply aH) | (apply aD) | (apply bE; exact rfl; ((refine aN (i := 1) rfl cW rfl dT dB eK ?_)); refine aB ?_; refine cE ?_) | (refine aE rfl rfl ?_; ((first | refine aG ?_ | refine aC rfl ?_)); refine aB ?_))
  refine T_rftm rfl rfl (term_f br A c xs hx) (fun _ => Nat.zero_le _) hle3 aX (fun x4k x4i x4s x4 a4 b4 o4 A4 c4 h4 lZ hle4 ok4 => ?_)
  refine aB ?_
  repeat' (first | (apply aF) | (apply aA) | (apply bP) | (apply aH) | (apply aD) | (apply aP; exact rfl; ((refine aL (i := 1) rfl rfl rfl ?_)); refine aB ?_) | (apply bE; exact rfl; ((first | refine aN (i := 1) rfl cW rfl dT dB eK ?_ | refine aN (i := 2) rfl cW rfl dT dB eK ?_)); refine aB ?_; refine cE ?_) | (refine aE rfl rfl ?_; ((refine aC rfl ?_)); refine aB ?_))
  refine aZ (.inl rfl) (dP rfl (dC (i := 2) rfl rfl rfl)) (cA (.blk br (iA A c xs a4 b4 o4) 105 :: H) (Sl (.slice A2 x2.length c2) x2 :: Sl (.slice A4 x4.length c4) x4 :: R) dV ?_)
  exact hk ((x1, .mk x2s x2, x3, .mk x4k x4i x4s x4)) a4 b4 o4 ((), (A2, c2), (), (A4, c4)) ((h1).pair ((h2).pair ((h3).pair (h4)))) aO hle4 (show dO x1 ∧ (x2s.size ≤ 9223372036854775807 ∧ x2.length ≤ 9223372036854775807) ∧ True ∧ (dO x4k ∧ dO x4i ∧ x4s.size ≤ 9223372036854775807 ∧ x4.length ≤ 9223372036854775807) from ⟨ok1, ok2, ok3, ok4⟩)
theorem frame_f {w0 : World} (br : Nat) (A : Option Addr) (c : Nat) (xs : List UInt8) (hx : xs.length ≤ 250000) : Rf Tryz.prog w0 103 [.pointer (some ⟨br, 0, none⟩)] br A c xs 0 (frD xs) pD := by
  intro H R K a b0 o hma hax hm hk
  refine bV Tryz.func103 rfl Tryz.ntmps103 fI ?_
  apply aF; apply aA
  repeat' ((refine bJ rfl rfl ?_; ((refine bL cW (fun b => ?_))); refine aB ?_))
  apply aH; apply aD
  revert b
  intro bz
  apply aF; apply aA
  repeat' ((refine bJ rfl rfl ?_; ((refine bL cW (fun b => ?_))); refine aB ?_))
  apply aH; apply aD
  revert b
  intro bt
  refine nU ?_
  repeat' (first | (apply aF) | (apply aA) | (refine aE rfl rfl ?_; ((refine aG ?_)); refine aB ?_))
  refine nI rfl rfl (qI br A c xs hx) (fun _ => Nat.zero_le _) hax aX (fun x1 a1 b1 o1 A1 c1 h1 le1 hle1 ok1 => ?_)
  refine aB ?_
  repeat' (first | (apply aF) | (apply aA) | (apply aH) | (apply aD) | (apply bE; exact rfl; ((refine aN (i := 1) rfl cW rfl dT dB eK ?_)); refine aB ?_; refine cE ?_) | (refine aE rfl rfl ?_; ((first | refine aG ?_ | refine aC rfl ?_)); refine aB ?_))
  refine nI rfl rfl (qI br A c xs hx) (fun _ => Nat.zero_le _) hle1 aX (fun x2 a2 b2 o2 A2 c2 h2 le2 hle2 ok2 => ?_)
  refine aB ?_
  repeat' (first | (apply aF) | (apply aA) | (apply aH) | (apply aD) | (apply bE; exact rfl; ((refine aN (i := 1) rfl cW rfl dT dB eK ?_)); refine aB ?_; refine cE ?_) | (refine aE rfl rfl ?_; ((first | refine aG ?_ | refine aC rfl ?_)); refine aB ?_))
  refine gI rfl rfl (eG br A c xs hx) (fun _ => Nat.zero_le _) hle2 aX (fun x3 a3 b3 o3 h3 le3 hle3 ok3 => ?_)
  refine aB ?_
  repeat' (first | (apply aF) | (apply aA) | (apply aH) | (apply aD) | (apply bE; exact rfl; ((refine aN (i := 1) rfl cW rfl dT dB eK ?_)); refine aB ?_; refine cE ?_) | (refine aE rfl rfl ?_; ((first | refine aG ?_ | refine aC rfl ?_)); refine aB ?_))
  refine gI rfl rfl (eG br A c xs hx) (fun _ => Nat.zero_le _) hle3 aX (fun x4 a4 b4 o4 h4 lZ hle4 ok4 => ?_)
  refine aB ?_
  repeat' (first | (apply aF) | (apply aA) | (apply aH) | (apply aD) | (apply bE; exact rfl; ((refine aN (i := 1) rfl cW rfl dT dB eK ?_)); refine aB ?_; refine cE ?_) | (refine aE rfl rfl ?_; ((first | refine aG ?_ | refine aC rfl ?_)); refine aB ?_))
  refine gI rfl rfl (eG br A c xs hx) (fun _ => Nat.zero_le _) hle4 aX (fun x5 a5 b5 o5 h5 le5 hle5 ok5 => ?_)
  refine aB ?_
  repeat' (first | (apply aF) | (apply aA) | (apply bP) | (apply aH) | (apply aD) | (apply aP; exact rfl; ((refine aL (i := 1) rfl rfl rfl ?_)); refine aB ?_) | (apply bE; exact rfl; ((first | refine aN (i := 1) rfl cW rfl dT dB eK ?_ | refine aN (i := 2) rfl cW rfl dT dB eK ?_)); refine aB ?_; refine cE ?_) | (refine aE rfl rfl ?_; ((refine aC rfl ?_)); refine aB ?_))
  refine aZ (.inl rfl) (dP rfl (dC (i := 2) rfl rfl rfl)) (cA (.blk br (iA A c xs a5 b5 o5) 105 :: H) (Sl (.slice A1 x1.length c1) x1 :: Sl (.slice A2 x2.length c2) x2 :: R) dV ?_)
  exact hk ((x1, x2, x3, x4, x5)) a5 b5 o5 ((A1, c1), (A2, c2), (), (), ()) ((h1).pair ((h2).pair ((h3).pair ((h4).pair (h5))))) aO hle5 (show (x1.length ≤ c1 ∧ c1 ≤ eO) ∧ (x2.length ≤ c2 ∧ c2 ≤ eO) ∧ dO x3 ∧ dO x4 ∧ dO x5 from ⟨ok1, ok2, ok3, ok4, ok5⟩)
theorem p9 {w0 : World} (br : Nat) (A : Option Addr) (c : Nat) (xs : List UInt8) (hx : xs.length ≤ 250000) : Rf Tryz.prog w0 104 [.pointer (some ⟨br, 0, none⟩)] br A c xs 0 (i8 xs) pD := by
  intro H R K a b0 o hma hax hm hk
  refine bV Tryz.func104 rfl Tryz.ntmps104 fI ?_
  apply aF; apply aA
  repeat' ((refine bJ rfl rfl ?_; ((refine bL cW (fun b => ?_))); refine aB ?_))
  apply aH; apply aD
  revert b
  intro bz
  apply aF; apply aA
  repeat' ((refine bJ rfl rfl ?_; ((refine bL cW (fun b => ?_))); refine aB ?_))
  apply aH; apply aD
  revert b
  intro bt
  refine nU ?_
  repeat' (first | (apply aF) | (apply aA) | (refine aE rfl rfl ?_; ((refine aG ?_)); refine aB ?_))
  refine gI rfl rfl (eG br A c xs hx) (fun _ => Nat.zero_le _) hax aX (fun x1 a1 b1 o1 h1 le1 hle1 ok1 => ?_)
  refine aB ?_
  repeat' (first | (apply aF) | (apply aA) | (apply aH) | (apply aD) | (apply bE; exact rfl; ((refine aN (i := 1) rfl cW rfl dT dB eK ?_)); refine aB ?_; refine cE ?_) | (refine aE rfl rfl ?_; ((first | refine aG ?_ | refine aC rfl ?_)); refine aB ?_))
  refine gI rfl rfl (eG br A c xs hx) (fun _ => Nat.zero_le _) hle1 aX (fun x2 a2 b2 o2 h2 le2 hle2 ok2 => ?_)
  refine aB ?_
  repeat' (first | (apply aF) | (apply aA) | (apply aH) | (apply aD) | (apply bE; exact rfl; ((refine aN (i := 1) rfl cW rfl dT dB eK ?_)); refine aB ?_; refine cE ?_) | (refine aE rfl rfl ?_; ((first | refine aG ?_ | refine aC rfl ?_)); refine aB ?_))
  refine nI rfl rfl (lJ br A c xs hx) (fun _ => Nat.zero_le _) hle2 aX (fun x3 a3 b3 o3 A3 c3 h3 le3 hle3 ok3 => ?_)
  refine aB ?_
  repeat' (first | (apply aF) | (apply aA) | (apply aH) | (apply aD) | (apply bE; exact rfl; ((refine aN (i := 1) rfl cW rfl dT dB eK ?_)); refine aB ?_; refine cE ?_) | (refine aE rfl rfl ?_; ((first | refine aG ?_ | refine aC rfl ?_)); refine aB ?_))
  refine wS rfl rfl (qM br A c xs hx) (fun _ => Nat.zero_le _) hle3 aX (fun x4 a4 b4 o4 h4 lZ hle4 ok4 => ?_)
  refine aB ?_
  repeat' (first | (apply aF) | (apply aA) | (apply aH) | (apply aD) | (apply bE; exact rfl; ((refine aN (i := 1) rfl cW rfl dT dB eK ?_)); refine aB ?_; refine cE ?_) | (refine aE rfl rfl ?_; ((first | refine aG ?_ | refine aC rfl ?_)); refine aB ?_))
  refine nI rfl rfl (lJ br A c xs hx) (fun _ => Nat.zero_le _) hle4 aX (fun x5 a5 b5 o5 A5 c5 h5 le5 hle5 ok5 => ?_)
  refine aB ?_
  repeat' (first | (apply aF) | (apply aA) | (apply aH) | (apply aD) | (apply bE; exact rfl; ((refine aN (i := 1) rfl cW rfl dT dB eK ?_)); refine aB ?_; refine cE ?_) | (refine aE rfl rfl ?_; ((first | refine aG ?_ | refine aC rfl ?_)); refine aB ?_))
  refine wS rfl rfl (qM br A c xs hx) (fun _ => Nat.zero_le _) hle5 aX (fun x6 a6 b6 o6 h6 le6 hle6 ok6 => ?_)
  refine aB ?_
  repeat' (first | (apply aF) | (apply aA) | (apply aH) | (apply aD) | (apply bE; exact rfl; ((refine aN (i := 1) rfl cW rfl dT dB eK ?_)); refine aB ?_; refine cE ?_) | (refine aE rfl rfl ?_; ((first | refine aG ?_ | refine aC rfl ?_)); refine aB ?_))
  refine gI rfl rfl (eG br A c xs hx) (fun _ => Nat.zero_le _) hle6 aX (fun x7 a7 b7 o7 h7 le7 hle7 ok7 => ?_)
  refine aB ?_
  repeat' (first | (apply aF) | (apply aA) | (apply bP) | (apply aH) | (apply aD) | (apply aP; exact rfl; ((refine aL (i := 1) rfl rfl rfl ?_)); refine aB ?_) | (apply bE; exact rfl; ((first | refine aN (i := 1) rfl cW rfl dT dB eK ?_ | refine aN (i := 2) rfl cW rfl dT dB eK ?_)); refine aB ?_; refine cE ?_) | (refine aE rfl rfl ?_; ((refine aC rfl ?_)); refine aB ?_))
  refine aZ (.inl rfl) (dP rfl (dC (i := 2) rfl rfl rfl)) (cA (.blk br (iA A c xs a7 b7 o7) 105 :: H) (Sl (.slice A3 x3.length c3) x3 :: Sl (.slice A5 x5.length c5) x5 :: R) dV ?_)
  exact hk ((x1, x2, x3, x4, x5, x6, x7)) a7 b7 o7 ((), (), (A3, c3), (), (A5, c5), (), ()) ((h1).pair ((h2).pair ((h3).pair ((h4).pair ((h5).pair ((h6).pair (h7))))))) aO hle7 (show dO x1 ∧ dO x2 ∧ (x3.length ≤ c3 ∧ c3 ≤ eO) ∧ True ∧ (x5.length ≤ c5 ∧ c5 ≤ eO) ∧ True ∧ dO x7 from ⟨ok1, ok2, ok3, ok4, ok5, ok6, ok7⟩)
theorem scope_f {w0 : World} (br : Nat) (A : Option Addr) (c : Nat) (xs : List UInt8) (hx : xs.length ≤ 250000) : Rf Tryz.prog w0 105 [.pointer (some ⟨br, 0, none⟩)] br A c xs 0 (zV xs) pD := by
  intro H R K a b0 o hma hax hm hk
  refine bV Tryz.func105 rfl Tryz.ntmps105 fI ?_
  apply aF; apply aA
  repeat' ((refine bJ rfl rfl ?_; ((refine bL cW (fun b => ?_))); refine aB ?_))
  apply aH; apply aD
  revert b
  intro bz
  apply aF; apply aA
  repeat' ((refine bJ rfl rfl ?_; ((refine bL cW (fun b => ?_))); refine aB ?_))
  apply aH; apply aD
  revert b
  intro bt
  refine nU ?_
  repeat' (first | (apply aF) | (apply aA) | (refine aE rfl rfl ?_; ((refine aG ?_)); refine aB ?_))
  refine gI rfl rfl (eG br A c xs hx) (fun _ => Nat.zero_le _) hax aX (fun x1 a1 b1 o1 h1 le1 hle1 ok1 => ?_)
  refine aB ?_
  repeat' (first | (apply aF) | (apply aA) | (apply aH) | (apply aD) | (apply bE; exact rfl; ((refine aN (i := 1) rfl cW rfl dT dB eK ?_)); refine aB ?_; refine cE ?_) | (refine aE rfl rfl ?_; ((first | refine aG ?_ | refine aC rfl ?_)); refine aB ?_))
  refine gI rfl rfl (eG br A c xs hx) (fun _ => Nat.zero_le _) hle1 aX (fun x2 a2 b2 o2 h2 le2 hle2 ok2 => ?_)
  refine aB ?_
  repeat' (first | (apply aF) | (apply aA) | (apply aH) | (apply aD) | (apply bE; exact rfl; ((refine aN (i := 1) rfl cW rfl dT dB eK ?_)); refine aB ?_; refine cE ?_) | (refine aE rfl rfl ?_; ((first | refine aG ?_ | refine aC rfl ?_)); refine aB ?_))
  refine gI rfl rfl (eG br A c xs hx) (fun _ => Nat.zero_le _) hle2 aX (fun x3 a3 b3 o3 h3 le3 hle3 ok3 => ?_)
  refine aB ?_
  repeat' (first | (apply aF) | (apply aA) | (apply aH) | (apply aD) | (apply bE; exact rfl; ((refine aN (i := 1) rfl cW rfl dT dB eK ?_)); refine aB ?_; refine cE ?_) | (refine aE rfl rfl ?_; ((first | refine aG ?_ | refine aC rfl ?_)); refine aB ?_))
  refine gI rfl rfl (eG br A c xs hx) (fun _ => Nat.zero_le _) hle3 aX (fun x4 a4 b4 o4 h4 lZ hle4 ok4 => ?_)
  refine aB ?_
  repeat' (first | (apply aF) | (apply aA) | (apply aH) | (apply aD) | (apply bE; exact rfl; ((refine aN (i := 1) rfl cW rfl dT dB eK ?_)); refine aB ?_; refine cE ?_) | (refine aE rfl rfl ?_; ((first | refine aG ?_ | refine aC rfl ?_)); refine aB ?_))
  refine nI rfl rfl (qI br A c xs hx) (fun _ => Nat.zero_le _) hle4 aX (fun x5 a5 b5 o5 A5 c5 h5 le5 hle5 ok5 => ?_)
  refine aB ?_
  repeat' (first | (apply aF) | (apply aA) | (apply aH) | (apply aD) | (apply bE; exact rfl; ((refine aN (i := 1) rfl cW rfl dT dB eK ?_)); refine aB ?_; refine cE ?_) | (refine aE rfl rfl ?_; ((first | refine aG ?_ | refine aC rfl ?_)); refine aB ?_))
  refine T_rfs rfl rfl (yK br A c xs hx) (fun _ => Nat.zero_le _) hle5 aX (fun x6 a6 b6 o6 h6 le6 hle6 ok6 => ?_)
  refine aB ?_
  repeat' (first | (apply aF) | (apply aA) | (apply aH) | (apply aD) | (apply bE; exact rfl; ((refine aN (i := 1) rfl cW rfl dT dB eK ?_)); refine aB ?_; refine cE ?_) | (refine aE rfl rfl ?_; ((first | refine aG ?_ | refine aC rfl ?_)); refine aB ?_))
  refine nI rfl rfl (qI br A c xs hx) (fun _ => Nat.zero_le _) hle6 aX (fun x7 a7 b7 o7 A7 c7 h7 le7 hle7 ok7 => ?_)
  refine aB ?_
  repeat' (first | (apply aF) | (apply aA) | (apply bP) | (apply aH) | (apply aD) | (apply aP; exact rfl; ((refine aL (i := 1) rfl rfl rfl ?_)); refine aB ?_) | (apply bE; exact rfl; ((first | refine aN (i := 1) rfl cW rfl dT dB eK ?_ | refine aN (i := 2) rfl cW rfl dT dB eK ?_)); refine aB ?_; refine cE ?_) | (refine aE rfl rfl ?_; ((refine aC rfl ?_)); refine aB ?_))
  refine aZ (.inl rfl) (dP rfl (dC (i := 2) rfl rfl rfl)) (cA (.blk br (iA A c xs a7 b7 o7) 105 :: H) (Sl (.slice A5 x5.length c5) x5 :: Sl (.slice A7 x7.length c7) x7 :: R) dV ?_)
  exact hk ((x1, x2, x3, x4, x5, x6, x7)) a7 b7 o7 ((), (), (), (), (A5, c5), (), (A7, c7)) ((h1).pair ((h2).pair ((h3).pair ((h4).pair ((h5).pair ((h6).pair (h7))))))) aO hle7 (show dO x1 ∧ dO x2 ∧ dO x3 ∧ dO x4 ∧ (x5.length ≤ c5 ∧ c5 ≤ eO) ∧ x6.size ≤ 9223372036854775807 ∧ (x7.length ≤ c7 ∧ c7 ≤ eO) from ⟨ok1, ok2, ok3, ok4, ok5, ok6, ok7⟩)
theorem try_f {w0 : World} (br : Nat) (A : Option Addr) (c : Nat) (xs : List UInt8) (hx : xs.length ≤ 250000) : Rf Tryz.prog w0 146 [.pointer (some ⟨br, 0, none⟩)] br A c xs 0 (tyD xs) pD := by
  intro H R K a b0 o hma hax hm hk
  refine bV Tryz.func146 rfl Tryz.ntmps146 fI ?_
  apply aF; apply aA
  repeat' ((refine bJ rfl rfl ?_; ((refine bL cW (fun b => ?_))); refine aB ?_))
  apply aH; apply aD
  revert b
  intro bz
  apply aF; apply aA
  repeat' ((refine bJ rfl rfl ?_; ((refine bL cW (fun b => ?_))); refine aB ?_))
  apply aH; apply aD
  revert b
  intro bt
  refine nU ?_
  repeat' (first | (apply aF) | (apply aA) | (refine aE rfl rfl ?_; ((refine aG ?_)); refine aB ?_))
  refine gI rfl rfl (eG br A c xs hx) (fun _ => Nat.zero_le _) hax aX (fun x1 a1 b1 o1 h1 le1 hle1 ok1 => ?_)
  refine aB ?_
  repeat' (first | (apply aF) | (apply aA) | (apply aH) | (apply aD) | (apply bE; exact rfl; ((refine aN (i := 1) rfl cW rfl dT dB eK ?_)); refine aB ?_; refine cE ?_) | (refine aE rfl rfl ?_; ((first | refine aG ?_ | refine aC rfl ?_)); refine aB ?_))
  refine gI rfl rfl (eG br A c xs hx) (fun _ => Nat.zero_le _) hle1 aX (fun x2 a2 b2 o2 h2 le2 hle2 ok2 => ?_)
  refine aB ?_
  repeat' (first | (apply aF) | (apply aA) | (apply aH) | (apply aD) | (apply bE; exact rfl; ((refine aN (i := 1) rfl cW rfl dT dB eK ?_)); refine aB ?_; refine cE ?_) | (refine aE rfl rfl ?_; ((first | refine aG ?_ | refine aC rfl ?_)); refine aB ?_))
  refine gI rfl rfl (eG br A c xs hx) (fun _ => Nat.zero_le _) hle2 aX (fun x3 a3 b3 o3 h3 le3 hle3 ok3 => ?_)
  refine aB ?_
  repeat' (first | (apply aF) | (apply aA) | (apply bP) | (apply aH) | (apply aD) | (apply aP; exact rfl; ((refine aL (i := 1) rfl rfl rfl ?_)); refine aB ?_) | (apply bE; exact rfl; ((first | refine aN (i := 1) rfl cW rfl dT dB eK ?_ | refine aN (i := 2) rfl cW rfl dT dB eK ?_)); refine aB ?_; refine cE ?_) | (refine aE rfl rfl ?_; ((refine aC rfl ?_)); refine aB ?_))
  refine aZ (.inl rfl) (dP rfl (dC (i := 2) rfl rfl rfl)) (cA (.blk br (iA A c xs a3 b3 o3) 105 :: H) (R) dV ?_)
  exact hk ((x1, x2, x3)) a3 b3 o3 ((), (), ()) ((h1).pair ((h2).pair (h3))) aO hle3 (show dO x1 ∧ dO x2 ∧ dO x3 from ⟨ok1, ok2, ok3⟩)
end Go.Proofs.YtggdljhmbckpmaaGreat
namespace Go.Proofs.YtggdljhmbckpmaaGreat
open Go Go.RowKit
set_option maxRecDepth 100000
set_option maxHeartbeats 6400000

theorem choice_f {w0 : World} (br : Nat) (A : Option Addr) (c : Nat) (xs : List UInt8) (hx : xs.length ≤ 250000) : Rf Tryz.prog w0 107 [.pointer (some ⟨br, 0, none⟩)] br A c xs 0 (sR xs) pD := by
  intro H R K a b0 o hma hax hm hk
  refine bV Tryz.func107 rfl Tryz.ntmps107 fI ?_
  apply aF; apply aA
  repeat' ((refine bJ rfl rfl ?_; ((refine bL cW (fun b => ?_))); refine aB ?_))
  apply aH; apply aD
  revert b
  intro bz
  apply aF; apply aA
  repeat' ((refine bJ rfl rfl ?_; ((refine bL cW (fun b => ?_))); refine aB ?_))
  apply aH; apply aD
  revert b
  intro bt
  refine nU ?_
  repeat' (first | (apply aF) | (apply aA) | (refine aE rfl rfl ?_; ((refine aG ?_)); refine aB ?_))
  refine gI rfl rfl (eG br A c xs hx) (fun _ => Nat.zero_le _) hax aX (fun x1 a1 b1 o1 h1 le1 hle1 ok1 => ?_)
  refine aB ?_
  repeat' (first | (apply aF) | (apply aA) | (apply aH) | (apply aD) | (apply bE; exact rfl; ((refine aN (i := 1) rfl cW rfl dT dB eK ?_)); refine aB ?_; refine cE ?_) | (refine aE rfl rfl ?_; ((first | refine aG ?_ | refine aC rfl ?_)); refine aB ?_))
  refine lK rfl rfl hx hle1 aX (fun n2 a2' b2' o2' ho2 le2' hz2 hp2 hle2' => ?_)
  refine aB ?_
  repeat' ((refine aE rfl rfl ?_; ((refine aY ?_)); refine aB ?_))
  apply aH; apply aD
  refine kL [5, 6, 12, 13, 14, 15, 16, 17, 18, 19, 20, 21, 22, 23, 24, 25, 26, 27, 28, 29, 30, 31] (fun j H' R' => ∃ (a' o' : Nat) (b' : Bool) (A' : Option Addr) (c' : Nat) (l : List sQ), H' = .blk br (iA A c xs a' b' o') 105 :: .blk bt [.int .i64 x1, (.slice A' l.length c'), .slice none 0 0, .int .i64 0, .int .i64 0, .int .i64 0, .int .i64 0, .int .i64 0, .int .i64 0, .int .i64 0, .bool false, .slice none 0 0, .slice none 0 0, .int .i64 0, .int .i64 0, .int .i64 0, .int .i64 0, .int .i64 0] 115 :: .blk bz [.int .i64 0, .slice none 0 0, .slice none 0 0, .int .i64 0, .int .i64 0, .int .i64 0, .int .i64 0, .int .i64 0, .int .i64 0, .int .i64 0, .bool false, .slice none 0 0, .slice none 0 0, .int .i64 0, .int .i64 0, .int .i64 0, .int .i64 0, .int .i64 0] 115 :: H ∧ R' = Sl (.slice A' l.length c') l :: R ∧ Out xs (dY xs (tyD xs)) ⟨a1, b1, o1⟩ l ⟨a', b', o'⟩ ∧ a1  ≤ a' ∧ a' ≤ xs.length ∧ (l.length ≤ c' ∧ c' ≤ eO)) ?_ ?_
  · skip
    repeat' (first | (apply aF) | (apply aA) | (apply aV) | (apply aH) | (apply aD) | (refine aE rfl rfl ?_; ((refine aY ?_)); refine aB ?_))
    refine eJ (.blk br (iA A c xs a2' b2' o2') 105 :: .row (.slice none 0 0) 207 3 0 [] :: .blk bt [.int .i64 x1, .slice none 0 0, .slice none 0 0, .int .i64 0, .int .i64 0, .int .i64 0, .int .i64 0, .int .i64 0, .int .i64 0, .int .i64 0, .bool false, .slice none 0 0, .slice none 0 0, .int .i64 0, .int .i64 0, .int .i64 0, .int .i64 0, .int .i64 0] 115 :: .blk bz [.int .i64 0, .slice none 0 0, .slice none 0 0, .int .i64 0, .int .i64 0, .int .i64 0, .int .i64 0, .int .i64 0, .int .i64 0, .int .i64 0, .bool false, .slice none 0 0, .slice none 0 0, .int .i64 0, .int .i64 0, .int .i64 0, .int .i64 0, .int .i64 0] 115 :: H) (Cx [] ([] : List sQ) :: (R)) (fun w hs => ((hs.nilrow 207 3).perm (List.Perm.swap _ _ _)).learn (Cx [] ([] : List sQ)) (fun s _ => gN s)) ?_
    refine cM [5, 6, 12, 13, 14, 15, 16, 17, 18, 19, 20, 21, 22, 23, 24, 25, 26, 27, 28, 29, 30, 31] (fun k j H2 R2 => ∃ (i a' o' : Nat) (b' : Bool) (A0 : Option Addr) (c0 : Nat) (cs : List Value) (l : List sQ), i + k = n2 ∧ j 5 = .int .i64 (i : Int) ∧ (∀ p ∈ (R), p ∈ R2) ∧ Cx cs l ∈ R2 ∧ H2 = .blk br (iA A c xs a' b' o') 105 :: .row (.slice A0 i c0) 207 3 i cs :: .blk bt [.int .i64 x1, .slice A0 i c0, .slice none 0 0, .int .i64 0, .int .i64 0, .int .i64 0, .int .i64 0, .int .i64 0, .int .i64 0, .int .i64 0, .bool false, .slice none 0 0, .slice none 0 0, .int .i64 0, .int .i64 0, .int .i64 0, .int .i64 0, .int .i64 0] 115 :: .blk bz [.int .i64 0, .slice none 0 0, .slice none 0 0, .int .i64 0, .int .i64 0, .int .i64 0, .int .i64 0, .int .i64 0, .int .i64 0, .int .i64 0, .bool false, .slice none 0 0, .slice none 0 0, .int .i64 0, .int .i64 0, .int .i64 0, .int .i64 0, .int .i64 0] 115 :: H ∧ a2' ≤ a' ∧ a' ≤ xs.length ∧ l.length = i ∧ Lp (tyD xs) n2 a2' b2' o2' k l a' b' o') n2 eS ⟨0, a2', o2', b2', none, 0, [], [], by omega, rfl, (fun _ h => List.mem_cons_of_mem _ h), List.mem_cons_self, rfl, Nat.le_refl _, by omega, rfl, Lp.start _ _ _ _ _⟩ ?_
    rintro k j' H2 R2 ⟨i, a', o', b', A0, c0, cs, l, hik, hji, hR2, hcx, hH2, haa, ha', hli, hlp⟩
    subst hH2
    have hmx := hR2 _ (show Sl (.slice A xs.length c) xs ∈ _ from aX)
    refine dD (by simp only [eF, List.foldl_cons, List.foldl_nil, List.set_cons_succ, List.set_cons_zero, hji]; rfl) ?_
    rcases Nat.lt_or_ge i n2 with hlt | hge
    rotate_left
    · obtain rfl : k = 0 := by omega
      have hdone := Lp.done ho2 hlp (.inr rfl) haa ha'
      repeat' (first | (apply aF) | (apply aA) | (apply cG) | (apply aJ; exact rfl) | (apply aH) | (apply aD) | (apply aW) | (apply aS) | (apply aU; exact rfl; ((refine bQ rfl rfl (fun h => ?_) (fun h => ?_))) <;> (first | (exfalso; omega) | refine aB ?_)) | (refine aE rfl rfl ?_; ((first | refine aG ?_ | refine cH rfl eR ?_)); refine aB ?_) | (refine cX rfl ?_; refine aB ?_))
      subst hli
      refine eH 1 rfl rfl cQ hcx (fun A' c' hv => ?_)
      cases hv
      refine fL (fun w hs => dN hs List.mem_cons_self) (fun hb => ?_)
      exact gJ _ (Sl (.slice A0 l.length c0) l :: R) eS ⟨a', o', _, A0, c0, l, rfl, rfl, hdone, by omega, ha', hb⟩ (fun w hs => hs.weaken (List.Sublist.refl _) (bT List.mem_cons_self (fun p hp => List.mem_cons_of_mem _ (hR2 p hp))))
    cases b' with
    | true =>
      have hdone := Lp.done ho2 hlp (.inl rfl) haa ha'
      repeat' (first | (apply aF) | (apply aA) | (apply cG) | (apply aJ; exact rfl) | (apply aH) | (apply aD) | (apply aW) | (apply aS) | (apply aP; exact rfl; ((refine aL (i := 0) rfl rfl rfl ?_)); refine aB ?_) | (apply aU; exact rfl; ((refine bQ rfl rfl (fun h => ?_) (fun h => ?_))) <;> (first | (exfalso; omega) | refine aB ?_)) | (refine aE rfl rfl ?_; ((first | refine aG ?_ | refine bX rfl eR ?_ | refine bA rfl ?_ | refine aC rfl ?_ | refine dJ rfl ?_)); refine aB ?_))
      subst hli
      refine eH 1 rfl rfl cQ hcx (fun A' c' hv => ?_)
      cases hv
      refine fL (fun w hs => dN hs List.mem_cons_self) (fun hb => ?_)
      exact gJ _ (Sl (.slice A0 l.length c0) l :: R) eS ⟨a', o', _, A0, c0, l, rfl, rfl, hdone, by omega, ha', hb⟩ (fun w hs => hs.weaken (List.Sublist.refl _) (bT List.mem_cons_self (fun p hp => List.mem_cons_of_mem _ (hR2 p hp))))
    | false =>
      obtain ⟨k', rfl⟩ : ∃ k', k = k' + 1 := ⟨k - 1, by omega⟩
      have hb1 := (hlp.ok rfl).1
      repeat' (first | (apply aF) | (apply aA) | (apply aV) | (apply bF) | (apply aK; exact rfl) | (apply aH) | (apply aD) | (apply aP; exact rfl; ((refine aL (i := 0) rfl rfl rfl ?_)); refine aB ?_) | (apply aU; exact rfl; ((refine bQ rfl rfl (fun h => ?_) (fun h => ?_))) <;> (first | (exfalso; omega) | refine aB ?_)) | (refine aE rfl rfl ?_; ((first | refine aG ?_ | refine bX rfl eR ?_ | refine bA rfl ?_ | refine aC rfl ?_ | refine dJ rfl ?_)); refine aB ?_))
      refine qR rfl rfl ((try_f br A c xs hx).g (Nat.zero_le _)) aO ha' hmx (fun x a2' b2' o2' y hd h3' h4' hok => ?_)
      refine aB ?_
      repeat' ((refine bJ rfl rfl ?_; ((refine bL cW (fun b => ?_))); refine aB ?_))
      refine bJ rfl rfl ?_
      refine aN (i := 0) (vs := Unp.cs x y) rfl rfl rfl (UnpL.len x y) (show 0 + 3 ≤ 3 by omega) (UnpL.one x y) ?_
      rw [eI (by rw [UnpL.len]; rfl)]
      refine aB ?_
      refine cE ?_
      repeat' (first | (refine aP rfl ?_; refine aL (i := 0) rfl rfl (cU (by rw [UnpL.len]; rfl)) ?_; refine aB ?_) | (refine bJ rfl rfl ?_; refine fR (cs := Unp.cs x y) cQ rfl (by rw [UnpL.len]; rfl) (fun b9 => ?_); refine aB ?_) | (refine bJ rfl rfl ?_; refine dF 3 0 (news := Unp.cs x y) rfl rfl rfl rfl cQ (by rw [UnpL.len]; rfl) (UnpL.one x y) aO aO (fun v' => ?_); refine aB ?_; refine cE ?_; refine gY 3 rfl (fun A9 c9 hv9 => ?_); subst hv9) | (apply aA) | (apply aH) | (apply aD) | (apply bU) | (apply aP; exact rfl; ((refine aL (i := 3) rfl rfl rfl ?_)); refine aB ?_) | (apply aU; exact rfl; ((refine bM rfl rfl aO aO ?_)); refine aB ?_) | (apply bE; exact rfl; ((refine aN (i := 4) rfl cW rfl dT dB eK ?_)); refine aB ?_; refine cE ?_) | (refine aE rfl rfl ?_; ((first | refine aG ?_ | refine aY ?_ | refine aC rfl ?_)); refine aB ?_))
      exact cJ k' (.blk br (iA A c xs a2' b2' o2') 105 :: .row (.slice A9 (i + 1) c9) 207 3 (i + 1) (cs ++ Unp.cs x y) :: .blk bt [.int .i64 x1, .slice A9 (i + 1) c9, .slice none 0 0, .int .i64 0, .int .i64 0, .int .i64 0, .int .i64 0, .int .i64 0, .int .i64 0, .int .i64 0, .bool false, .slice none 0 0, .slice none 0 0, .int .i64 0, .int .i64 0, .int .i64 0, .int .i64 0, .int .i64 0] 115 :: .blk bz [.int .i64 0, .slice none 0 0, .slice none 0 0, .int .i64 0, .int .i64 0, .int .i64 0, .int .i64 0, .int .i64 0, .int .i64 0, .int .i64 0, .bool false, .slice none 0 0, .slice none 0 0, .int .i64 0, .int .i64 0, .int .i64 0, .int .i64 0, .int .i64 0] 115 :: H) (Cx (cs ++ Unp.cs x y) (l ++ [x]) :: (R)) aO eS ⟨i + 1, a2', o2', b2', A9, c9, cs ++ Unp.cs x y, l ++ [x], by omega, rfl, (fun _ h => List.mem_cons_of_mem _ h), List.mem_cons_self, rfl, by omega, h4', by simp [hli], hlp.step hd⟩ (fun w hs => (hs.learn (Cx (cs ++ Unp.cs x y) (l ++ [x])) (fun s hR => eZ (hR (Cx cs l) (List.mem_append_right _ hcx)) (Unp.re hok (fun p hp => hR p (List.mem_append_left _ hp))))).weaken (.cons _ (.cons _ (List.Sublist.refl _))) (bT List.mem_cons_self (fun p hp => List.mem_cons_of_mem _ (List.mem_append_right _ (hR2 p hp)))))
  rintro j2 H2 R2 ⟨a2, o2, b2, A2, c2, x2, hH2, hR2, h2, le2, hle2, ok2⟩
  subst hH2 hR2
  refine dD (by simp only [eF, List.foldl_cons, List.foldl_nil, List.set_cons_succ, List.set_cons_zero]; rfl) ?_
  repeat' (first | (apply aF) | (apply aA) | (refine aE rfl rfl ?_; ((refine aG ?_)); refine aB ?_))
  refine nI rfl rfl (qI br A c xs hx) (fun _ => Nat.zero_le _) hle2 aX (fun x3 a3 b3 o3 A3 c3 h3 le3 hle3 ok3 => ?_)
  refine aB ?_
  repeat' (first | (apply aF) | (apply aA) | (apply aH) | (apply aD) | (apply bE; exact rfl; ((refine aN (i := 1) rfl cW rfl dT dB eK ?_)); refine aB ?_; refine cE ?_) | (refine aE rfl rfl ?_; ((first | refine aG ?_ | refine aC rfl ?_)); refine aB ?_))
  refine gI rfl rfl (eG br A c xs hx) (fun _ => Nat.zero_le _) hle3 aX (fun x4 a4 b4 o4 h4 lZ hle4 ok4 => ?_)
  refine aB ?_
  repeat' (first | (apply aF) | (apply aA) | (apply aH) | (apply aD) | (apply bE; exact rfl; ((refine aN (i := 1) rfl cW rfl dT dB eK ?_)); refine aB ?_; refine cE ?_) | (refine aE rfl rfl ?_; ((first | refine aG ?_ | refine aC rfl ?_)); refine aB ?_))
  refine gI rfl rfl (eG br A c xs hx) (fun _ => Nat.zero_le _) hle4 aX (fun x5 a5 b5 o5 h5 le5 hle5 ok5 => ?_)
  refine aB ?_
  repeat' (first | (apply aF) | (apply aA) | (apply aH) | (apply aD) | (apply bE; exact rfl; ((refine aN (i := 1) rfl cW rfl dT dB eK ?_)); refine aB ?_; refine cE ?_) | (refine aE rfl rfl ?_; ((first | refine aG ?_ | refine aC rfl ?_)); refine aB ?_))
  refine gI rfl rfl (eG br A c xs hx) (fun _ => Nat.zero_le _) hle5 aX (fun x6 a6 b6 o6 h6 le6 hle6 ok6 => ?_)
  refine aB ?_
  repeat' (first | (apply aF) | (apply aA) | (apply aH) | (apply aD) | (apply bE; exact rfl; ((refine aN (i := 1) rfl cW rfl dT dB eK ?_)); refine aB ?_; refine cE ?_) | (refine aE rfl rfl ?_; ((first | refine aG ?_ | refine aC rfl ?_)); refine aB ?_))
  refine gI rfl rfl (eG br A c xs hx) (fun _ => Nat.zero_le _) hle6 aX (fun x7 a7 b7 o7 h7 le7 hle7 ok7 => ?_)
  refine aB ?_
  repeat' (first | (apply aF) | (apply aA) | (apply aH) | (apply aD) | (apply bE; exact rfl; ((refine aN (i := 1) rfl cW rfl dT dB eK ?_)); refine aB ?_; refine cE ?_) | (refine aE rfl rfl ?_; ((first | refine aG ?_ | refine aC rfl ?_)); refine aB ?_))
  refine gI rfl rfl (eG br A c xs hx) (fun _ => Nat.zero_le _) hle7 aX (fun x8 a8 b8 o8 h8 le8 hle8 ok8 => ?_)
  refine aB ?_
  repeat' (first | (apply aF) | (apply aA) | (apply aH) | (apply aD) | (apply bE; exact rfl; ((refine aN (i := 1) rfl cW rfl dT dB eK ?_)); refine aB ?_; refine cE ?_) | (refine aE rfl rfl ?_; ((first | refine aG ?_ | refine aC rfl ?_)); refine aB ?_))
  refine gI rfl rfl (eG br A c xs hx) (fun _ => Nat.zero_le _) hle8 aX (fun x9 a9 b9 o9 h9 le9 hle9 ok9 => ?_)
  refine aB ?_
  repeat' (first | (apply aF) | (apply aA) | (apply aH) | (apply aD) | (apply bE; exact rfl; ((refine aN (i := 1) rfl cW rfl dT dB eK ?_)); refine aB ?_; refine cE ?_) | (refine aE rfl rfl ?_; ((first | refine aG ?_ | refine aC rfl ?_)); refine aB ?_))
  refine gI rfl rfl (eG br A c xs hx) (fun _ => Nat.zero_le _) hle9 aX (fun x10 a10 b10 o10 h10 le10 hle10 ok10 => ?_)
  refine aB ?_
  repeat' (first | (apply aF) | (apply aA) | (apply aH) | (apply aD) | (apply bE; exact rfl; ((refine aN (i := 1) rfl cW rfl dT dB eK ?_)); refine aB ?_; refine cE ?_) | (refine aE rfl rfl ?_; ((first | refine aG ?_ | refine aC rfl ?_)); refine aB ?_))
  refine wS rfl rfl (qM br A c xs hx) (fun _ => Nat.zero_le _) hle10 aX (fun x11 a11 b11 o11 h11 le11 hle11 ok11 => ?_)
  refine aB ?_
  repeat' (first | (apply aF) | (apply aA) | (apply aH) | (apply aD) | (apply bE; exact rfl; ((refine aN (i := 1) rfl cW rfl dT dB eK ?_)); refine aB ?_; refine cE ?_) | (refine aE rfl rfl ?_; ((first | refine aG ?_ | refine aC rfl ?_)); refine aB ?_))
  refine nI rfl rfl (lJ br A c xs hx) (fun _ => Nat.zero_le _) hle11 aX (fun x12 a12 b12 o12 A12 c12 h12 le12 hle12 ok12 => ?_)
  refine aB ?_
  repeat' (first | (apply aF) | (apply aA) | (apply aH) | (apply aD) | (apply bE; exact rfl; ((refine aN (i := 1) rfl cW rfl dT dB eK ?_)); refine aB ?_; refine cE ?_) | (refine aE rfl rfl ?_; ((first | refine aG ?_ | refine aC rfl ?_)); refine aB ?_))
  refine nI rfl rfl (lJ br A c xs hx) (fun _ => Nat.zero_le _) hle12 aX (fun x13 a13 b13 o13 A13 c13 h13 le13 hle13 ok13 => ?_)
  refine aB ?_
  repeat' (first | (apply aF) | (apply aA) | (apply aH) | (apply aD) | (apply bE; exact rfl; ((refine aN (i := 1) rfl cW rfl dT dB eK ?_)); refine aB ?_; refine cE ?_) | (refine aE rfl rfl ?_; ((first | refine aG ?_ | refine aC rfl ?_)); refine aB ?_))
  refine gI rfl rfl (eG br A c xs hx) (fun _ => Nat.zero_le _) hle13 aX (fun x14 a14 b14 o14 h14 le14 hle14 ok14 => ?_)
  refine aB ?_
  repeat' (first | (apply aF) | (apply aA) | (apply aH) | (apply aD) | (apply bE; exact rfl; ((refine aN (i := 1) rfl cW rfl dT dB eK ?_)); refine aB ?_; refine cE ?_) | (refine aE rfl rfl ?_; ((first | refine aG ?_ | refine aC rfl ?_)); refine aB ?_))
  refine gI rfl rfl (eG br A c xs hx) (fun _ => Nat.zero_le _) hle14 aX (fun x15 a15 b15 o15 h15 le15 hle15 ok15 => ?_)
  refine aB ?_
  repeat' (first | (apply aF) | (apply aA) | (apply aH) | (apply aD) | (apply bE; exact rfl; ((refine aN (i := 1) rfl cW rfl dT dB eK ?_)); refine aB ?_; refine cE ?_) | (refine aE rfl rfl ?_; ((first | refine aG ?_ | refine aC rfl ?_)); refine aB ?_))
  refine gI rfl rfl (eG br A c xs hx) (fun _ => Nat.zero_le _) hle15 aX (fun x16 a16 b16 o16 h16 le16 hle16 ok16 => ?_)
  refine aB ?_
  repeat' (first | (apply aF) | (apply aA) | (apply aH) | (apply aD) | (apply bE; exact rfl; ((refine aN (i := 1) rfl cW rfl dT dB eK ?_)); refine aB ?_; refine cE ?_) | (refine aE rfl rfl ?_; ((first | refine aG ?_ | refine aC rfl ?_)); refine aB ?_))
  refine gI rfl rfl (eG br A c xs hx) (fun _ => Nat.zero_le _) hle16 aX (fun x17 a17 b17 o17 h17 le17 hle17 ok17 => ?_)
  refine aB ?_
  repeat' (first | (apply aF) | (apply aA) | (apply aH) | (apply aD) | (apply bE; exact rfl; ((refine aN (i := 1) rfl cW rfl dT dB eK ?_)); refine aB ?_; refine cE ?_) | (refine aE rfl rfl ?_; ((first | refine aG ?_ | refine aC rfl ?_)); refine aB ?_))
  refine gI rfl rfl (eG br A c xs hx) (fun _ => Nat.zero_le _) hle17 aX (fun x18 a18 b18 o18 h18 le18 hle18 ok18 => ?_)
  refine aB ?_
  repeat' (first | (apply aF) | (apply aA) | (apply bP) | (apply aH) | (apply aD) | (apply aP; exact rfl; ((refine aL (i := 1) rfl rfl rfl ?_)); refine aB ?_) | (apply bE; exact rfl; ((first | refine aN (i := 1) rfl cW rfl dT dB eK ?_ | refine aN (i := 2) rfl cW rfl dT dB eK ?_)); refine aB ?_; refine cE ?_) | (refine aE rfl rfl ?_; ((refine aC rfl ?_)); refine aB ?_))
  refine aZ (.inl rfl) (dP rfl (dC (i := 2) rfl rfl rfl)) (cA (.blk br (iA A c xs a18 b18 o18) 105 :: H) (Sl (.slice A2 x2.length c2) x2 :: Sl (.slice A3 x3.length c3) x3 :: Sl (.slice A12 x12.length c12) x12 :: Sl (.slice A13 x13.length c13) x13 :: R) dV ?_)
  exact hk ((x1, x2, x3, x4, x5, x6, x7, x8, x9, x10, x11, x12, x13, x14, x15, x16, x17, x18)) a18 b18 o18 ((), (A2, c2), (A3, c3), (), (), (), (), (), (), (), (), (A12, c12), (A13, c13), (), (), (), (), ()) ((h1).pair ((h2).pair ((h3).pair ((h4).pair ((h5).pair ((h6).pair ((h7).pair ((h8).pair ((h9).pair ((h10).pair ((h11).pair ((h12).pair ((h13).pair ((h14).pair ((h15).pair ((h16).pair ((h17).pair (h18)))))))))))))))))) aO hle18 (show dO x1 ∧ (x2.length ≤ c2 ∧ c2 ≤ eO) ∧ (x3.length ≤ c3 ∧ c3 ≤ eO) ∧ dO x4 ∧ dO x5 ∧ dO x6 ∧ dO x7 ∧ dO x8 ∧ dO x9 ∧ dO x10 ∧ True ∧ (x12.length ≤ c12 ∧ c12 ≤ eO) ∧ (x13.length ≤ c13 ∧ c13 ≤ eO) ∧ dO x14 ∧ dO x15 ∧ dO x16 ∧ dO x17 ∧ dO x18 from ⟨ok1, ok2, ok3, ok4, ok5, ok6, ok7, ok8, ok9, ok10, ok11, ok12, ok13, ok14, ok15, ok16, ok17, ok18⟩)
end Go.Proofs.YtggdljhmbckpmaaGreat
