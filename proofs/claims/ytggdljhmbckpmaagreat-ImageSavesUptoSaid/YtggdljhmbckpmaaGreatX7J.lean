/- The reference's Encode: walk. Decode: structs read: walks, printed by gen_rd.py. -/
import Derived.Test.YtggdljhmbckpmaaGreatX6
import Derived.Test.YtggdljhmbckpmaaGreatA18J
import Derived.Test.YtggdljhmbckpmaaGreatM4J
import Derived.Test.YtggdljhmbckpmaaGreatN6J
set_option linter.unusedVariables false
set_option linter.unusedSimpArgs false
namespace Go.Proofs.YtggdljhmbckpmaaGreat
open Go Go.RowKit
set_option maxRecDepth 100000
set_option maxHeartbeats 3200000

theorem m8 {w0 : World} {H : List Hp} {R : List MP} {K : Value → List Hp → List MP → Prop} (x0 : Int) (hx0 : dO x0) (x1 : Int) (hx1 : dO x1) (x2 : Int) (hx2 : dO x2) (x3 : Int) (hx3 : dO x3) (x4 : Int) (hx4 : dO x4) (x5 : Int) (hx5 : dO x5) (x6 : Bool) (Ax7 : Option Addr) (cx7 : Nat) (x7 : List Int) (hx7 : x7.length ≤ 9223372036854775807) (Ax8 : Option Addr) (cx8 : Nat) (x8 : List Int) (hx8 : x8.length ≤ 9223372036854775807) (Ax9 : Option Addr) (cx9 : Nat) (x9 : List pU) (hx9 : x9.length ≤ 9223372036854775807) (Ax10 : Option Addr) (cx10 : Nat) (x10 : List pP) (hx10 : x10.length ≤ 9223372036854775807) (Ax11 : Option Addr) (cx11 : Nat) (x11 : List pR) (hx11 : x11.length ≤ 9223372036854775807) (Ax12 : Option Addr) (cx12 : Nat) (x12 : List mU) (hx12 : x12.length ≤ 9223372036854775807) (Ax13 : Option Addr) (cx13 : Nat) (x13 : List nJ) (hx13 : x13.length ≤ 9223372036854775807) (Ax14 : Option Addr) (cx14 : Nat) (x14 : List pL) (hx14 : x14.length ≤ 9223372036854775807) (x15 : Int) (hx15 : dO x15) (out : List UInt8) (hout : out = dA x0 ++ (dA x1 ++ (dA x2 ++ (dA x3 ++ (dA x4 ++ (dA x5 ++ (iI x6 ++ (hY x7 ++ (hY x8 ++ ((dA x9.length ++ (x9.flatMap Cod.enc ++ (dA x10.length ++ (x10.flatMap Cod.enc ++ (dA x11.length ++ (x11.flatMap Cod.enc ++ (dA x12.length ++ (x12.flatMap Cod.enc ++ (dA x13.length ++ (x13.flatMap Cod.enc ++ (dA x14.length ++ (x14.flatMap Cod.enc)))))))))))) ++ (dA x15))))))))))) (hb : 3 + out.length ≤ 1000000000) (hfs : ∀ p ∈ [Sl (.slice Ax7 x7.length cx7) x7, Sl (.slice Ax8 x8.length cx8) x8, Sl (.slice Ax9 x9.length cx9) x9, Sl (.slice Ax10 x10.length cx10) x10, Sl (.slice Ax11 x11.length cx11) x11, Sl (.slice Ax12 x12.length cx12) x12, Sl (.slice Ax13 x13.length cx13) x13, Sl (.slice Ax14 x14.length cx14) x14], p ∈ R)
    (k : KC K (uO out) H R) : CallsK Tryz.prog w0 8 #[.agg #[.int .i64 x0, .int .i64 x1, .int .i64 x2, .int .i64 x3, .int .i64 x4, .int .i64 x5, .bool x6, .slice Ax7 x7.length cx7, .slice Ax8 x8.length cx8, .slice Ax9 x9.length cx9, .slice Ax10 x10.length cx10, .slice Ax11 x11.length cx11, .slice Ax12 x12.length cx12, .slice Ax13 x13.length cx13, .slice Ax14 x14.length cx14, .int .i64 x15]] H R K := by
  have hS0 : Sl (.slice Ax7 x7.length cx7) x7 ∈ R := hfs _ dB
  have hS1 : Sl (.slice Ax8 x8.length cx8) x8 ∈ R := hfs _ dB
  have hS2 : Sl (.slice Ax9 x9.length cx9) x9 ∈ R := hfs _ dB
  have hS3 : Sl (.slice Ax10 x10.length cx10) x10 ∈ R := hfs _ dB
  have hS4 : Sl (.slice Ax11 x11.length cx11) x11 ∈ R := hfs _ dB
  have hS5 : Sl (.slice Ax12 x12.length cx12) x12 ∈ R := hfs _ dB
  have hS6 : Sl (.slice Ax13 x13.length cx13) x13 ∈ R := hfs _ dB
  have hS7 : Sl (.slice Ax14 x14.length cx14) x14 ∈ R := hfs _ dB
  refine bV Tryz.func8 rfl Tryz.ntmps8 fI ?_
  apply aF; apply aA
  repeat' ((refine bJ rfl rfl ?_; ((first | refine dX cW (fun b => ?_) | refine bL cW (fun b => ?_))); refine aB ?_))
  rename_i b1
  revert b
  intro b2
  apply aH; apply aD
  apply aF; apply aA
  repeat' (first | (refine aE rfl rfl ?_; ((first | refine aY ?_ | refine dI gG ?_)); refine aB ?_) | (refine bJ rfl rfl ?_; ((first | refine dX cW (fun b => ?_) | refine bK cQ fP rfl (fun b => ?_))); refine aB ?_))
  rename_i bb
  revert b
  intro bw
  apply aH; apply aD
  refine eJ (.row (.slice (some ⟨bb, 0, none⟩) 3 3) 5 1 3 (bC headMa) :: .blk bw [.slice (some ⟨bb, 0, none⟩) 3 3] 90 :: .blk b2 [.slice none 0 0, .int .i64 0] 39 :: H) (At b1 0 [.int .i64 x0, .int .i64 x1, .int .i64 x2, .int .i64 x3, .int .i64 x4, .int .i64 x5, .bool x6, .slice Ax7 x7.length cx7, .slice Ax8 x8.length cx8, .slice Ax9 x9.length cx9, .slice Ax10 x10.length cx10, .slice Ax11 x11.length cx11, .slice Ax12 x12.length cx12, .slice Ax13 x13.length cx13, .slice Ax14 x14.length cx14, .int .i64 x15] :: R) (fun w hs => ?_) ?_
  · have h1 := (hs.torow (i := 1) (b := bb) (cs := bC headMa) (sp := []) (n := 3) (cap := 3) (size := 1) rfl rfl rfl (Nat.le_refl _) cQ)
    have h2 := h1.freeze (i := 3) rfl
    exact (h2.perm (List.Perm.swap _ _ _))
  have hb0 : headMa.length + (dA x0 ++ (dA x1 ++ (dA x2 ++ (dA x3 ++ (dA x4 ++ (dA x5 ++ (iI x6 ++ (hY x7 ++ (hY x8 ++ ((dA x9.length ++ (x9.flatMap Cod.enc ++ (dA x10.length ++ (x10.flatMap Cod.enc ++ (dA x11.length ++ (x11.flatMap Cod.enc ++ (dA x12.length ++ (x12.flatMap Cod.enc ++ (dA x13.length ++ (x13.flatMap Cod.enc ++ (dA x14.length ++ (x14.flatMap Cod.enc)))))))))))) ++ (dA x15))))))))))).length ≤ 1000000000 := by rw [← hout]; exact hb
  repeat' (first | (apply aF) | (apply aA) | (apply aP; exact rfl; ((refine aQ rfl cL rfl ?_)); refine aB ?_) | (refine aE rfl rfl ?_; ((first | refine aG ?_ | refine aC rfl ?_)); refine aB ?_))
  refine fJ (bs := headMa) rfl rfl (dH bw x0 hx0) (fun _ h => (by cases h)) rfl rfl (dM hb0) (fun bs1 v1 h1 => ?_)
  refine aB ?_
  have hb1 := dL h1 hb0
  repeat' (first | (apply aF) | (apply aA) | (apply aH) | (apply aD) | (apply aP; exact rfl; ((refine aQ rfl cL rfl ?_)); refine aB ?_) | (refine aE rfl rfl ?_; ((first | refine aG ?_ | refine aC rfl ?_)); refine aB ?_))
  refine fJ (bs := bs1) rfl rfl (dH bw x1 hx1) (fun _ h => (by cases h)) rfl rfl (dM hb1) (fun bs2 v2 h2 => ?_)
  refine aB ?_
  have hb2 := dL h2 hb1
  repeat' (first | (apply aF) | (apply aA) | (apply aH) | (apply aD) | (apply aP; exact rfl; ((refine aQ rfl cL rfl ?_)); refine aB ?_) | (refine aE rfl rfl ?_; ((first | refine aG ?_ | refine aC rfl ?_)); refine aB ?_))
  refine fJ (bs := bs2) rfl rfl (dH bw x2 hx2) (fun _ h => (by cases h)) rfl rfl (dM hb2) (fun bs3 v3 h3 => ?_)
  refine aB ?_
  have hb3 := dL h3 hb2
  repeat' (first | (apply aF) | (apply aA) | (apply aH) | (apply aD) | (apply aP; exact rfl; ((refine aQ rfl cL rfl ?_)); refine aB ?_) | (refine aE rfl rfl ?_; ((first | refine aG ?_ | refine aC rfl ?_)); refine aB ?_))
  refine fJ (bs := bs3) rfl rfl (dH bw x3 hx3) (fun _ h => (by cases h)) rfl rfl (dM hb3) (fun bs4 v4 h4 => ?_)
  refine aB ?_
  have hb4 := dL h4 hb3
  repeat' (first | (apply aF) | (apply aA) | (apply aH) | (apply aD) | (apply aP; exact rfl; ((refine aQ rfl cL rfl ?_)); refine aB ?_) | (refine aE rfl rfl ?_; ((first | refine aG ?_ | refine aC rfl ?_)); refine aB ?_))
  refine fJ (bs := bs4) rfl rfl (dH bw x4 hx4) (fun _ h => (by cases h)) rfl rfl (dM hb4) (fun bs5 v5 h5 => ?_)
  refine aB ?_
  have hb5 := dL h5 hb4
  repeat' (first | (apply aF) | (apply aA) | (apply aH) | (apply aD) | (apply aP; exact rfl; ((refine aQ rfl cL rfl ?_)); refine aB ?_) | (refine aE rfl rfl ?_; ((first | refine aG ?_ | refine aC rfl ?_)); refine aB ?_))
  refine fJ (bs := bs5) rfl rfl (dH bw x5 hx5) (fun _ h => (by cases h)) rfl rfl (dM hb5) (fun bs6 v6 h6 => ?_)
  refine aB ?_
  have hb6 := dL h6 hb5
  repeat' (first | (apply aF) | (apply aA) | (apply aH) | (apply aD) | (apply aP; exact rfl; ((refine aQ rfl cL rfl ?_)); refine aB ?_) | (refine aE rfl rfl ?_; ((first | refine aG ?_ | refine aC rfl ?_)); refine aB ?_))
  refine fJ (bs := bs6) rfl rfl (oL bw x6) (fun _ h => (by cases h)) rfl rfl (dM hb6) (fun bs7 v7 h7 => ?_)
  refine aB ?_
  have hb7 := dL h7 hb6
  repeat' (first | (apply aF) | (apply aA) | (apply aH) | (apply aD) | (apply aP; exact rfl; ((refine aQ rfl cL rfl ?_)); refine aB ?_) | (refine aE rfl rfl ?_; ((first | refine aG ?_ | refine aC rfl ?_)); refine aB ?_))
  refine fJ (bs := bs7) rfl rfl (kQ bw Ax7 cx7 x7 hx7) (bT aX (fun _ h => (by cases h))) rfl rfl (dM hb7) (fun bs8 v8 h8 => ?_)
  refine aB ?_
  have hb8 := dL h8 hb7
  repeat' (first | (apply aF) | (apply aA) | (apply aH) | (apply aD) | (apply aP; exact rfl; ((refine aQ rfl cL rfl ?_)); refine aB ?_) | (refine aE rfl rfl ?_; ((first | refine aG ?_ | refine aC rfl ?_)); refine aB ?_))
  refine fJ (bs := bs8) rfl rfl (kQ bw Ax8 cx8 x8 hx8) (bT aX (fun _ h => (by cases h))) rfl rfl (dM hb8) (fun bs9 v9 h9 => ?_)
  refine aB ?_
  have hb9 := dL h9 hb8
  repeat' (first | (apply aF) | (apply aA) | (apply aH) | (apply aD) | (apply aP; exact rfl; ((refine bD rfl cL rfl ?_)); refine aB ?_) | (refine aE rfl rfl ?_; ((refine aG ?_)); refine aB ?_))
  refine fJ (bs := bs9) rfl rfl (rlists_x bw x0 hx0 x1 hx1 x2 hx2 x3 hx3 x4 hx4 x5 hx5 x6 Ax7 cx7 x7 hx7 Ax8 cx8 x8 hx8 Ax9 cx9 x9 hx9 Ax10 cx10 x10 hx10 Ax11 cx11 x11 hx11 Ax12 cx12 x12 hx12 Ax13 cx13 x13 hx13 Ax14 cx14 x14 hx14 x15 hx15) (fun p hp => List.mem_cons_of_mem _ (hfs p hp)) rfl rfl (dM hb9) (fun bs10 v10 h10 => ?_)
  refine aB ?_
  have hb10 := dL h10 hb9
  repeat' (first | (apply aF) | (apply aA) | (apply aH) | (apply aD) | (apply aP; exact rfl; ((refine aQ rfl cL rfl ?_)); refine aB ?_) | (refine aE rfl rfl ?_; ((first | refine aG ?_ | refine aC rfl ?_)); refine aB ?_))
  refine fJ (bs := bs10) rfl rfl (dH bw x15 hx15) (fun _ h => (by cases h)) rfl rfl hb10 (fun bs11 v11 h11 => ?_)
  refine aB ?_
  have hW : Wt headMa out bs11 := Wt.eq (h1.trans (h2.trans (h3.trans (h4.trans (h5.trans (h6.trans (h7.trans (h8.trans (h9.trans (h10.trans h11)))))))))) hout.symm
  obtain ⟨w1, w2, w3, w4⟩ := hW
  have h3 : headMa.length = 3 := rfl
  rw [h3] at w2 w3 w4
  rcases Nat.lt_or_ge 250000 bs11.length with hf | hf
  · skip
    repeat' (first | (refine dK rfl ?_; refine aT fA ?_; refine kW bw bs11 v11 hf aO ?_; refine aB ?_) | (apply aF) | (apply aA) | (apply bP) | (apply aK; exact rfl) | (apply aH) | (apply aD) | (apply bN) | (apply bE; exact rfl; ((refine aN (i := 2) rfl cW rfl dT dB eK ?_)); refine aB ?_; refine cE ?_) | (refine aE rfl rfl ?_; ((first | refine aG ?_ | refine dI gG ?_)); refine aB ?_))
    refine aZ (.inl rfl) (dP rfl (dC (i := 2) rfl rfl rfl)) (cA H (Sl (.slice none 0 0) ([] : List UInt8) :: R) (fun w hs => (hs.weaken eB hP).sl_nil UInt8) ?_)
    have e : uO out = ([], 2) := by
      unfold uO
      rw [if_neg (fun hh => by
        have := w3 hh
        rw [this, List.length_append, h3] at hf
        omega)]
    rw [e] at k
    exact k none 0
  · have hle : 3 + out.length ≤ 250000 := by
      rcases Nat.lt_or_ge 250000 (3 + out.length) with g | g
      · have := w4 g; omega
      · exact g
    have he := w3 hle
    have e : uO out = (bs11, 0) := by unfold uO; rw [if_pos hle, he]
    rw [e] at k
    repeat' (first | (refine dK rfl ?_; refine aT fA ?_; refine kV bw bs11 v11 hf ?_; refine aB ?_) | (refine aP rfl ?_; refine aL (i := 1) rfl rfl rfl ?_; refine aB ?_; refine hZ 0 rfl (fun A9 c9 hv9 => ?_); subst hv9; refine cE ?_) | (apply aF) | (apply aA) | (apply bP) | (apply bF) | (apply aJ; exact rfl) | (apply aH) | (apply aD) | (apply bE; exact rfl; ((refine aN (i := 1) rfl cW rfl dT dB eK ?_)); refine aB ?_; refine cE ?_) | (refine aE rfl rfl ?_; ((first | refine aG ?_ | refine bA rfl ?_ | refine aC rfl ?_ | refine dI gG ?_)); refine aB ?_))
    exact aZ (.inl rfl) (dP rfl (dC (i := 1) rfl rfl rfl)) (cA H (Sl (.slice A9 bs11.length c9) bs11 :: R) dV (k A9 c9))
theorem vA {w0 : World} {H : List Hp} {R : List MP} {K : Value → List Hp → List MP → Prop} (m : jO) (y : Unp.Y jO) (hok : Unp.ok m y) (hb : (stB m).length ≤ 1000000000) (hfs : ∀ p ∈ Unp.fs m y, p ∈ R) (k : KC K (uH m) H R) : CallsK Tryz.prog w0 8 #[.agg (Unp.cs m y).toArray] H R K := by
  obtain ⟨n1, n2, n3, n4, n5, n6, b1, l1, l2, lF, lB, lS, lV, lT, lC, n7⟩ := m
  obtain ⟨u1, u2, u3, u4, u5, u6, u7, ⟨A1, c1⟩, ⟨A2, c2⟩, ⟨AF, cF⟩, ⟨AB, cB⟩, ⟨AS, cS⟩, ⟨AV, cV⟩, ⟨AT, cT⟩, ⟨AC, cC⟩, u8⟩ := y
  obtain ⟨h1, h2, h3, h4, h5, h6, _, g1, g2, gF, gB, gS, gV, gT, gC, h7⟩ := hok
  have hl : (stB (n1, n2, n3, n4, n5, n6, b1, l1, l2, lF, lB, lS, lV, lT, lC, n7)).length = 3 + (Cod.enc (α := jO) (n1, n2, n3, n4, n5, n6, b1, l1, l2, lF, lB, lS, lV, lT, lC, n7)).length := by rw [stB, List.length_append]; rfl
  exact m8 n1 h1 n2 h2 n3 h3 n4 h4 n5 h5 n6 h6 b1 A1 c1 l1 (Nat.le_trans g1.1 g1.2) A2 c2 l2 (Nat.le_trans g2.1 g2.2) AF cF lF (Nat.le_trans gF.1 gF.2) AB cB lB (Nat.le_trans gB.1 gB.2) AS cS lS (Nat.le_trans gS.1 gS.2) AV cV lV (Nat.le_trans gV.1 gV.2) AT cT lT (Nat.le_trans gT.1 gT.2) AC cC lC (Nat.le_trans gC.1 gC.2) n7 h7 (Cod.enc (α := jO) (n1, n2, n3, n4, n5, n6, b1, l1, l2, lF, lB, lS, lV, lT, lC, n7)) (by simp only [Cod.enc, hY, List.append_assoc]) aO hfs k
end Go.Proofs.YtggdljhmbckpmaaGreat
namespace Go.Proofs.YtggdljhmbckpmaaGreat
open Go Go.RowKit
set_option maxRecDepth 100000
set_option maxHeartbeats 3200000

abbrev tmD (xs : List UInt8) : Dc Tm := zB xs (xs.length + 1)
abbrev tpD (xs : List UInt8) : Dc Tp := t7 xs (xs.length + 1)
def frD (xs : List UInt8) : Dc pU := cK (dY xs (tmD xs)) (cK (dY xs (tmD xs)) (cK (fF xs) (cK (fF xs) (fF xs))))
def i8 (xs : List UInt8) : Dc pP := cK (fF xs) (cK (fF xs) (cK (dY xs (fF xs)) (cK (iL xs) (cK (dY xs (fF xs)) (cK (iL xs) (fF xs))))))
def zV (xs : List UInt8) : Dc pR := cK (fF xs) (cK (fF xs) (cK (fF xs) (cK (fF xs) (cK (dY xs (tmD xs)) (cK (kO xs) (dY xs (tmD xs)))))))
def vaD (xs : List UInt8) : Dc mU := cK (fF xs) (cK (tpD xs) (cK (iL xs) (tmD xs)))
def tyD (xs : List UInt8) : Dc sQ := cK (fF xs) (cK (fF xs) (fF xs))
def trD (xs : List UInt8) : Dc nJ := cK (fF xs) (vaD xs)
def sR (xs : List UInt8) : Dc pL := cK (fF xs) (cK (dY xs (tyD xs)) (cK (dY xs (tmD xs)) (cK (fF xs) (cK (fF xs) (cK (fF xs) (cK (fF xs) (cK (fF xs) (cK (fF xs) (cK (fF xs) (cK (iL xs) (cK (dY xs (fF xs)) (cK (dY xs (fF xs)) (cK (fF xs) (cK (fF xs) (cK (fF xs) (cK (fF xs) (fF xs)))))))))))))))))
def sT (xs : List UInt8) : Dc jO := cK (fF xs) (cK (fF xs) (cK (fF xs) (cK (fF xs) (cK (fF xs) (cK (fF xs) (cK (iL xs) (cK (dY xs (fF xs)) (cK (dY xs (fF xs)) (cK (dY xs (frD xs)) (cK (dY xs (i8 xs)) (cK (dY xs (zV xs)) (cK (dY xs (vaD xs)) (cK (dY xs (trD xs)) (cK (dY xs (sR xs)) (fF xs)))))))))))))))
theorem tO (xs : List UInt8) : Cod.dec (α := jO) xs = sT xs := rfl

theorem typ_rr {w0 : World} (br : Nat) (A : Option Addr) (c : Nat) (xs : List UInt8) (hx : xs.length ≤ 250000) : ∀ f m : Nat, xs.length < m + f → Rr Tryz.prog w0 139 [.pointer (some ⟨br, 0, none⟩)] br A c xs m (t7 xs f) pD := by
  intro f
  induction f with
  | zero => exact fun m hm H R K KP a hma hax => by omega
  | succ f ih =>
  intro m hmf
  have ih' := ih (m + 1) aO
  intro H R K KP a hma hax hm hk hp
  refine dE Tryz.func139 rfl Tryz.ntmps139 fI ?_
  apply aF; apply aA
  repeat' ((refine bJ rfl rfl ?_; ((refine bL cW (fun b => ?_))); refine aB ?_))
  apply aH; apply aD
  revert b
  intro bt
  refine kF ?_
  repeat' (first | (apply aF) | (apply aA) | (refine aE rfl rfl ?_; ((refine aG ?_)); refine aB ?_))
  refine T_rds rfl rfl (yW br A c xs hx) hax aX (fun s1 a1 h1 le1 hle1 ho1 => ?_) (fun e he => ?_)
  rotate_left
  · skip
    repeat' ((apply aM))
    exact aR (cN H R dV (hp e (by unfold t7 kE; simp only [cK, he])))
  refine aB ?_
  repeat' (first | (apply aF) | (apply aA) | (apply aH) | (apply aD) | (apply bE; exact rfl; ((refine aN (i := 1) rfl cW rfl dT dB eK ?_)); refine aB ?_; refine cE ?_) | (refine aE rfl rfl ?_; ((first | refine aG ?_ | refine aC rfl ?_ | refine cR iE iE ?_)); refine aB ?_))
  refine jT rfl rfl (get123_r rfl br A c xs hx 139 [.pointer (some ⟨br, 0, none⟩)] m _ _ gP ih') aO hle1 aX (fun l2 a2 A2 c2 h2 le2 hle2 ho2 => ?_) (fun e he => ?_)
  rotate_left
  · skip
    repeat' ((apply aM))
    exact aR (cN H R dV (hp e (by unfold t7 kE; simp only [cK, h1, he])))
  refine aB ?_
  repeat' (first | (apply aF) | (apply aA) | (apply bP) | (apply aH) | (apply aD) | (apply aP; exact rfl; ((refine aL (i := 1) rfl rfl rfl ?_)); refine aB ?_) | (apply bE; exact rfl; ((refine aN (i := 1) rfl cW rfl dT dB eK ?_)); refine aB ?_; refine cE ?_) | (refine aE rfl rfl ?_; ((refine aC rfl ?_)); refine aB ?_))
  refine aZ (.inl rfl) (dP rfl (dC (i := 1) rfl rfl rfl)) (fG _ (Sl (.slice A2 l2.length c2) l2 :: R) dV (hk (.mk s1 l2) a2 (A2, c2) (by unfold t7 kE; simp only [cK, h1, h2]; rfl) aO hle2 (show s1.size ≤ 9223372036854775807 ∧ l2.length ≤ 9223372036854775807 from ⟨ho1, Nat.le_trans ho2.1 ho2.2⟩)))
theorem typ_r {w0 : World} (br : Nat) (A : Option Addr) (c : Nat) (xs : List UInt8) (hx : xs.length ≤ 250000) : Rr Tryz.prog w0 139 [.pointer (some ⟨br, 0, none⟩)] br A c xs 0 (tpD xs) pD := typ_rr br A c xs hx _ _ aO
theorem term_rr {w0 : World} (br : Nat) (A : Option Addr) (c : Nat) (xs : List UInt8) (hx : xs.length ≤ 250000) : ∀ f m : Nat, xs.length < m + f → Rr Tryz.prog w0 137 [.pointer (some ⟨br, 0, none⟩)] br A c xs m (zB xs f) pD := by
  intro f
  induction f with
  | zero => exact fun m hm H R K KP a hma hax => by omega
  | succ f ih =>
  intro m hmf
  have ih' := ih (m + 1) aO
  intro H R K KP a hma hax hm hk hp
  refine dE Tryz.func137 rfl Tryz.ntmps137 fI ?_
  apply aF; apply aA
  repeat' ((refine bJ rfl rfl ?_; ((refine bL cW (fun b => ?_))); refine aB ?_))
  apply aH; apply aD
  revert b
  intro bt
  refine kF ?_
  repeat' (first | (apply aF) | (apply aA) | (refine aE rfl rfl ?_; ((first | refine aG ?_ | refine aC rfl ?_)); refine aB ?_) | (refine bJ rfl rfl ?_; ((refine bK cQ fP rfl (fun b => ?_))); refine aB ?_))
  refine kS [0, 1] rfl rfl rfl rfl cQ hx hax aX dB (fun zs1 a1 hi le1 hle1 => ?_) (fun e he => ?_)
  rotate_left
  · skip
    repeat' ((apply aM))
    refine aR (cN H R dV (hp e ?_))
    rcases eM he with he | ⟨n0, b0, h1_0, he⟩
    · exact by unfold zB kE; simp only [cK, he]
    rcases eM he with he | ⟨n1, b1, h1_1, he⟩
    · exact by unfold zB kE; simp only [cK, h1_0, he]
    cases he
  obtain ⟨n1_0, a1_0, h1_0, hi⟩ := eL hi
  obtain ⟨n1_1, a1_1, h1_1, hi⟩ := eL hi
  obtain ⟨rfl, rfl⟩ := hU hi
  refine aB ?_
  refine cE ?_
  repeat' (first | (apply aF) | (apply aA) | (apply aH) | (apply aD) | (refine aE rfl rfl ?_; ((refine aG ?_)); refine aB ?_))
  refine T_rds rfl rfl (yW br A c xs hx) hle1 aX (fun s2 a2 h2 le2 hle2 ho2 => ?_) (fun e he => ?_)
  rotate_left
  · skip
    repeat' ((apply aM))
    exact aR (cN H R dV (hp e (by unfold zB kE; simp only [cK, h1_0, h1_1, he])))
  refine aB ?_
  repeat' (first | (apply aF) | (apply aA) | (apply aH) | (apply aD) | (apply bE; exact rfl; ((refine aN (i := 1) rfl cW rfl dT dB eK ?_)); refine aB ?_; refine cE ?_) | (refine aE rfl rfl ?_; ((first | refine aG ?_ | refine aC rfl ?_ | refine cR iE iE ?_)); refine aB ?_))
  refine jT rfl rfl (mL rfl br A c xs hx 137 [.pointer (some ⟨br, 0, none⟩)] m _ _ gP ih') aO hle2 aX (fun l3 a3 A3 c3 h3 le3 hle3 ho3 => ?_) (fun e he => ?_)
  rotate_left
  · skip
    repeat' ((apply aM))
    exact aR (cN H R dV (hp e (by unfold zB kE; simp only [cK, h1_0, h1_1, h2, he])))
  refine aB ?_
  repeat' (first | (apply aF) | (apply aA) | (apply bP) | (apply aH) | (apply aD) | (apply aP; exact rfl; ((refine aL (i := 1) rfl rfl rfl ?_)); refine aB ?_) | (apply bE; exact rfl; ((refine aN (i := 1) rfl cW rfl dT dB eK ?_)); refine aB ?_; refine cE ?_) | (refine aE rfl rfl ?_; ((refine aC rfl ?_)); refine aB ?_))
  refine aZ (.inl rfl) (dP rfl (dC (i := 1) rfl rfl rfl)) (fG _ (Sl (.slice A3 l3.length c3) l3 :: R) dV (hk (.mk n1_0 n1_1 s2 l3) a3 (A3, c3) (by unfold zB kE; simp only [cK, h1_0, h1_1, h2, h3]; rfl) aO hle3 (show dO n1_0 ∧ dO n1_1 ∧ s2.size ≤ 9223372036854775807 ∧ l3.length ≤ 9223372036854775807 from ⟨(eT h1_0).1, (eT h1_1).1, ho2, Nat.le_trans ho3.1 ho3.2⟩)))
theorem rN {w0 : World} (br : Nat) (A : Option Addr) (c : Nat) (xs : List UInt8) (hx : xs.length ≤ 250000) : Rr Tryz.prog w0 137 [.pointer (some ⟨br, 0, none⟩)] br A c xs 0 (tmD xs) pD := term_rr br A c xs hx _ _ aO
theorem frame_r {w0 : World} (br : Nat) (A : Option Addr) (c : Nat) (xs : List UInt8) (hx : xs.length ≤ 250000) : Rr Tryz.prog w0 91 [.pointer (some ⟨br, 0, none⟩)] br A c xs 0 (frD xs) pD := by
  intro H R K KP a hma hax hm hk hp
  refine dE Tryz.func91 rfl Tryz.ntmps91 fI ?_
  apply aF; apply aA
  repeat' ((refine bJ rfl rfl ?_; ((refine bL cW (fun b => ?_))); refine aB ?_))
  apply aH; apply aD
  revert b
  intro bt
  refine kF ?_
  repeat' (first | (apply aF) | (apply aA) | (refine aE rfl rfl ?_; ((first | refine aG ?_ | refine cR iE iE ?_)); refine aB ?_))
  refine jT rfl rfl (mL rfl br A c xs hx 137 [.pointer (some ⟨br, 0, none⟩)] 0 _ _ gP ((rN br A c xs hx).up aO)) (Nat.zero_le _) hax aX (fun l1 a1 A1 c1 h1 le1 hle1 ho1 => ?_) (fun e he => ?_)
  rotate_left
  · skip
    repeat' ((apply aM))
    exact aR (cN H R dV (hp e (by unfold frD; simp only [cK, he])))
  refine aB ?_
  repeat' (first | (apply aF) | (apply aA) | (apply aH) | (apply aD) | (apply bE; exact rfl; ((refine aN (i := 1) rfl cW rfl dT dB eK ?_)); refine aB ?_; refine cE ?_) | (refine aE rfl rfl ?_; ((first | refine aG ?_ | refine aC rfl ?_ | refine cR iE iE ?_)); refine aB ?_))
  refine jT rfl rfl (mL rfl br A c xs hx 137 [.pointer (some ⟨br, 0, none⟩)] 0 _ _ gP ((rN br A c xs hx).up aO)) (Nat.zero_le _) hle1 aX (fun l2 a2 A2 c2 h2 le2 hle2 ho2 => ?_) (fun e he => ?_)
  rotate_left
  · skip
    repeat' ((apply aM))
    exact aR (cN H R dV (hp e (by unfold frD; simp only [cK, h1, he])))
  refine aB ?_
  repeat' (first | (apply aF) | (apply aA) | (apply aH) | (apply aD) | (apply bE; exact rfl; ((refine aN (i := 1) rfl cW rfl dT dB eK ?_)); refine aB ?_; refine cE ?_) | (refine aE rfl rfl ?_; ((first | refine aG ?_ | refine aC rfl ?_)); refine aB ?_) | (refine bJ rfl rfl ?_; ((refine bK cQ fP rfl (fun b => ?_))); refine aB ?_))
  refine kS [2, 3, 4] rfl rfl rfl rfl cQ hx hle2 aX dB (fun zs3 a3 hi le3 hle3 => ?_) (fun e he => ?_)
  rotate_left
  · skip
    repeat' ((apply aM))
    refine aR (cN H R dV (hp e ?_))
    rcases eM he with he | ⟨n0, b0, h3_0, he⟩
    · exact by unfold frD; simp only [cK, h1, h2, he]
    rcases eM he with he | ⟨n1, b1, h3_1, he⟩
    · exact by unfold frD; simp only [cK, h1, h2, h3_0, he]
    rcases eM he with he | ⟨n2, b2, h3_2, he⟩
    · exact by unfold frD; simp only [cK, h1, h2, h3_0, h3_1, he]
    cases he
  obtain ⟨n3_0, a3_0, h3_0, hi⟩ := eL hi
  obtain ⟨n3_1, a3_1, h3_1, hi⟩ := eL hi
  obtain ⟨n3_2, a3_2, h3_2, hi⟩ := eL hi
  obtain ⟨rfl, rfl⟩ := hU hi
  refine aB ?_
  refine cE ?_
  repeat' (first | (apply aF) | (apply aA) | (apply bP) | (apply aH) | (apply aD) | (apply aP; exact rfl; ((refine aL (i := 1) rfl rfl rfl ?_)); refine aB ?_) | (apply bE; exact rfl; ((refine aN (i := 1) rfl cW rfl dT dB eK ?_)); refine aB ?_; refine cE ?_))
  refine aZ (.inl rfl) (dP rfl (dC (i := 1) rfl rfl rfl)) (fG _ (Sl (.slice A1 l1.length c1) l1 :: Sl (.slice A2 l2.length c2) l2 :: R) dV (hk (l1, l2, n3_0, n3_1, n3_2) a3 ((A1, c1), (A2, c2), (), (), ()) (by unfold frD; simp only [cK, h1, h2, h3_0, h3_1, h3_2]) aO hle3 (show (l1.length ≤ c1 ∧ c1 ≤ eO) ∧ (l2.length ≤ c2 ∧ c2 ≤ eO) ∧ dO n3_0 ∧ dO n3_1 ∧ dO n3_2 from ⟨ho1, ho2, (eT h3_0).1, (eT h3_1).1, (eT h3_2).1⟩)))
theorem try_r {w0 : World} (br : Nat) (A : Option Addr) (c : Nat) (xs : List UInt8) (hx : xs.length ≤ 250000) : Rr Tryz.prog w0 141 [.pointer (some ⟨br, 0, none⟩)] br A c xs 0 (tyD xs) pD := by
  intro H R K KP a hma hax hm hk hp
  refine dE Tryz.func141 rfl Tryz.ntmps141 fI ?_
  apply aF; apply aA
  repeat' ((refine bJ rfl rfl ?_; ((refine bL cW (fun b => ?_))); refine aB ?_))
  apply aH; apply aD
  revert b
  intro bt
  refine kF ?_
  repeat' (first | (apply aF) | (apply aA) | (refine aE rfl rfl ?_; ((first | refine aG ?_ | refine aC rfl ?_)); refine aB ?_) | (refine bJ rfl rfl ?_; ((refine bK cQ fP rfl (fun b => ?_))); refine aB ?_))
  refine kS [0, 1, 2] rfl rfl rfl rfl cQ hx hax aX dB (fun zs1 a1 hi le1 hle1 => ?_) (fun e he => ?_)
  rotate_left
  · skip
    repeat' ((apply aM))
    refine aR (cN H R dV (hp e ?_))
    rcases eM he with he | ⟨n0, b0, h1_0, he⟩
    · exact by unfold tyD; simp only [cK, he]
    rcases eM he with he | ⟨n1, b1, h1_1, he⟩
    · exact by unfold tyD; simp only [cK, h1_0, he]
    rcases eM he with he | ⟨n2, b2, h1_2, he⟩
    · exact by unfold tyD; simp only [cK, h1_0, h1_1, he]
    cases he
  obtain ⟨n1_0, a1_0, h1_0, hi⟩ := eL hi
  obtain ⟨n1_1, a1_1, h1_1, hi⟩ := eL hi
  obtain ⟨n1_2, a1_2, h1_2, hi⟩ := eL hi
  obtain ⟨rfl, rfl⟩ := hU hi
  refine aB ?_
  refine cE ?_
  repeat' (first | (apply aF) | (apply aA) | (apply bP) | (apply aH) | (apply aD) | (apply aP; exact rfl; ((refine aL (i := 1) rfl rfl rfl ?_)); refine aB ?_) | (apply bE; exact rfl; ((refine aN (i := 1) rfl cW rfl dT dB eK ?_)); refine aB ?_; refine cE ?_))
  refine aZ (.inl rfl) (dP rfl (dC (i := 1) rfl rfl rfl)) (fG _ (R) dV (hk (n1_0, n1_1, n1_2) a1 ((), (), ()) (by unfold tyD; simp only [cK, h1_0, h1_1, h1_2]) aO hle1 (show dO n1_0 ∧ dO n1_1 ∧ dO n1_2 from ⟨(eT h1_0).1, (eT h1_1).1, (eT h1_2).1⟩)))
end Go.Proofs.YtggdljhmbckpmaaGreat
