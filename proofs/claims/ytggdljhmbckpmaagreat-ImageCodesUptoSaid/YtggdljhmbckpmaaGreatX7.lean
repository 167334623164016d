/- The reference's Encode: walk. -/
import Derived.Test.YtggdljhmbckpmaaGreatX6
import Derived.Test.YtggdljhmbckpmaaGreatRA
import Derived.Test.YtggdljhmbckpmaaGreatMA
set_option linter.unusedVariables false
set_option linter.unusedSimpArgs false
namespace Go.Proofs.YtggdljhmbckpmaaGreat
open Go Go.RowKit
set_option maxRecDepth 100000
set_option maxHeartbeats 3200000

theorem yO {w0 : World} {H : List Hp} {R : List MP} {K : Value → List Hp → List MP → Prop} (x0 : Int) (hx0 : dD x0) (x1 : Int) (hx1 : dD x1) (x2 : Int) (hx2 : dD x2) (x3 : Int) (hx3 : dD x3) (x4 : Int) (hx4 : dD x4) (x5 : Int) (hx5 : dD x5) (x6 : Bool) (Ax7 : Option Addr) (cx7 : Nat) (x7 : List Int) (hx7 : x7.length ≤ 9223372036854775807) (Ax8 : Option Addr) (cx8 : Nat) (x8 : List Int) (hx8 : x8.length ≤ 9223372036854775807) (Ax9 : Option Addr) (cx9 : Nat) (x9 : List oK) (hx9 : x9.length ≤ 9223372036854775807) (Ax10 : Option Addr) (cx10 : Nat) (x10 : List oI) (hx10 : x10.length ≤ 9223372036854775807) (Ax11 : Option Addr) (cx11 : Nat) (x11 : List nZ) (hx11 : x11.length ≤ 9223372036854775807) (Ax12 : Option Addr) (cx12 : Nat) (x12 : List kZ) (hx12 : x12.length ≤ 9223372036854775807) (Ax13 : Option Addr) (cx13 : Nat) (x13 : List lU) (hx13 : x13.length ≤ 9223372036854775807) (Ax14 : Option Addr) (cx14 : Nat) (x14 : List nT) (hx14 : x14.length ≤ 9223372036854775807) (x15 : Int) (hx15 : dD x15) (out : List UInt8) (hout : out = cL x0 ++ (cL x1 ++ (cL x2 ++ (cL x3 ++ (cL x4 ++ (cL x5 ++ (gN x6 ++ (fY x7 ++ (fY x8 ++ ((cL x9.length ++ (x9.flatMap Cod.enc ++ (cL x10.length ++ (x10.flatMap Cod.enc ++ (cL x11.length ++ (x11.flatMap Cod.enc ++ (cL x12.length ++ (x12.flatMap Cod.enc ++ (cL x13.length ++ (x13.flatMap Cod.enc ++ (cL x14.length ++ (x14.flatMap Cod.enc)))))))))))) ++ (cL x15))))))))))) (hb : 3 + out.length ≤ 1000000000) (hfs : ∀ p ∈ [Sl (.slice Ax7 x7.length cx7) x7, Sl (.slice Ax8 x8.length cx8) x8, Sl (.slice Ax9 x9.length cx9) x9, Sl (.slice Ax10 x10.length cx10) x10, Sl (.slice Ax11 x11.length cx11) x11, Sl (.slice Ax12 x12.length cx12) x12, Sl (.slice Ax13 x13.length cx13) x13, Sl (.slice Ax14 x14.length cx14) x14], p ∈ R)
    (k : KC K (tL out) H R) : CallsK Tryz.prog w0 8 #[.agg #[.int .i64 x0, .int .i64 x1, .int .i64 x2, .int .i64 x3, .int .i64 x4, .int .i64 x5, .bool x6, .slice Ax7 x7.length cx7, .slice Ax8 x8.length cx8, .slice Ax9 x9.length cx9, .slice Ax10 x10.length cx10, .slice Ax11 x11.length cx11, .slice Ax12 x12.length cx12, .slice Ax13 x13.length cx13, .slice Ax14 x14.length cx14, .int .i64 x15]] H R K := by
  have hS0 : Sl (.slice Ax7 x7.length cx7) x7 ∈ R := hfs _ (by simp)
  have hS1 : Sl (.slice Ax8 x8.length cx8) x8 ∈ R := hfs _ (by simp)
  have hS2 : Sl (.slice Ax9 x9.length cx9) x9 ∈ R := hfs _ (by simp)
  have hS3 : Sl (.slice Ax10 x10.length cx10) x10 ∈ R := hfs _ (by simp)
  have hS4 : Sl (.slice Ax11 x11.length cx11) x11 ∈ R := hfs _ (by simp)
  have hS5 : Sl (.slice Ax12 x12.length cx12) x12 ∈ R := hfs _ (by simp)
  have hS6 : Sl (.slice Ax13 x13.length cx13) x13 ∈ R := hfs _ (by simp)
  have hS7 : Sl (.slice Ax14 x14.length cx14) x14 ∈ R := hfs _ (by simp)
  refine bX Tryz.func8 rfl Tryz.ntmps8 eZ ?_
  apply aF; apply aA
  repeat' ((refine bG rfl rfl ?_; ((first | refine eB cW (fun b => ?_) | refine bK cW (fun b => ?_))); refine aB ?_))
  rename_i b1
  revert b
  intro b2
  apply aG; apply aD
  apply aF; apply aA
  repeat' (first | (refine aE rfl rfl ?_; ((first | refine aX ?_ | refine dN gI ?_)); refine aB ?_) | (refine bG rfl rfl ?_; ((first | refine eB cW (fun b => ?_) | refine bH (by decide) fD rfl (fun b => ?_))); refine aB ?_))
  rename_i bb
  revert b
  intro bw
  apply aG; apply aD
  refine dT (.row (.slice (some ⟨bb, 0, none⟩) 3 3) 5 1 3 (bA headMa) :: .blk bw [.slice (some ⟨bb, 0, none⟩) 3 3] 90 :: .blk b2 [.slice none 0 0, .int .i64 0] 39 :: H) (At b1 0 [.int .i64 x0, .int .i64 x1, .int .i64 x2, .int .i64 x3, .int .i64 x4, .int .i64 x5, .bool x6, .slice Ax7 x7.length cx7, .slice Ax8 x8.length cx8, .slice Ax9 x9.length cx9, .slice Ax10 x10.length cx10, .slice Ax11 x11.length cx11, .slice Ax12 x12.length cx12, .slice Ax13 x13.length cx13, .slice Ax14 x14.length cx14, .int .i64 x15] :: R) (fun w hs => ?_) ?_
  · have h1 := (hs.torow (i := 1) (b := bb) (cs := bA headMa) (sp := []) (n := 3) (cap := 3) (size := 1) rfl rfl rfl (Nat.le_refl _) (by decide))
    have h2 := h1.freeze (i := 3) rfl
    exact (h2.perm (List.Perm.swap _ _ _))
  have hb0 : headMa.length + (cL x0 ++ (cL x1 ++ (cL x2 ++ (cL x3 ++ (cL x4 ++ (cL x5 ++ (gN x6 ++ (fY x7 ++ (fY x8 ++ ((cL x9.length ++ (x9.flatMap Cod.enc ++ (cL x10.length ++ (x10.flatMap Cod.enc ++ (cL x11.length ++ (x11.flatMap Cod.enc ++ (cL x12.length ++ (x12.flatMap Cod.enc ++ (cL x13.length ++ (x13.flatMap Cod.enc ++ (cL x14.length ++ (x14.flatMap Cod.enc)))))))))))) ++ (cL x15))))))))))).length ≤ 1000000000 := by rw [← hout]; exact hb
  repeat' (first | (apply aF) | (apply aA) | (apply aP; exact rfl; ((refine aQ rfl cJ rfl ?_)); refine aB ?_) | (refine aE rfl rfl ?_; ((first | refine aH ?_ | refine aC rfl ?_)); refine aB ?_))
  refine eK (bs := headMa) rfl rfl (cX bw x0 hx0) (fun _ h => (by cases h)) rfl rfl (dA hb0) (fun bs1 v1 h1 => ?_)
  refine aB ?_
  have hb1 := dB h1 hb0
  repeat' (first | (apply aF) | (apply aA) | (apply aG) | (apply aD) | (apply aP; exact rfl; ((refine aQ rfl cJ rfl ?_)); refine aB ?_) | (refine aE rfl rfl ?_; ((first | refine aH ?_ | refine aC rfl ?_)); refine aB ?_))
  refine eK (bs := bs1) rfl rfl (cX bw x1 hx1) (fun _ h => (by cases h)) rfl rfl (dA hb1) (fun bs2 v2 h2 => ?_)
  refine aB ?_
  have hb2 := dB h2 hb1
  repeat' (first | (apply aF) | (apply aA) | (apply aG) | (apply aD) | (apply aP; exact rfl; ((refine aQ rfl cJ rfl ?_)); refine aB ?_) | (refine aE rfl rfl ?_; ((first | refine aH ?_ | refine aC rfl ?_)); refine aB ?_))
  refine eK (bs := bs2) rfl rfl (cX bw x2 hx2) (fun _ h => (by cases h)) rfl rfl (dA hb2) (fun bs3 v3 h3 => ?_)
  refine aB ?_
  have hb3 := dB h3 hb2
  repeat' (first | (apply aF) | (apply aA) | (apply aG) | (apply aD) | (apply aP; exact rfl; ((refine aQ rfl cJ rfl ?_)); refine aB ?_) | (refine aE rfl rfl ?_; ((first | refine aH ?_ | refine aC rfl ?_)); refine aB ?_))
  refine eK (bs := bs3) rfl rfl (cX bw x3 hx3) (fun _ h => (by cases h)) rfl rfl (dA hb3) (fun bs4 v4 h4 => ?_)
  refine aB ?_
  have hb4 := dB h4 hb3
  repeat' (first | (apply aF) | (apply aA) | (apply aG) | (apply aD) | (apply aP; exact rfl; ((refine aQ rfl cJ rfl ?_)); refine aB ?_) | (refine aE rfl rfl ?_; ((first | refine aH ?_ | refine aC rfl ?_)); refine aB ?_))
  refine eK (bs := bs4) rfl rfl (cX bw x4 hx4) (fun _ h => (by cases h)) rfl rfl (dA hb4) (fun bs5 v5 h5 => ?_)
  refine aB ?_
  have hb5 := dB h5 hb4
  repeat' (first | (apply aF) | (apply aA) | (apply aG) | (apply aD) | (apply aP; exact rfl; ((refine aQ rfl cJ rfl ?_)); refine aB ?_) | (refine aE rfl rfl ?_; ((first | refine aH ?_ | refine aC rfl ?_)); refine aB ?_))
  refine eK (bs := bs5) rfl rfl (cX bw x5 hx5) (fun _ h => (by cases h)) rfl rfl (dA hb5) (fun bs6 v6 h6 => ?_)
  refine aB ?_
  have hb6 := dB h6 hb5
  repeat' (first | (apply aF) | (apply aA) | (apply aG) | (apply aD) | (apply aP; exact rfl; ((refine aQ rfl cJ rfl ?_)); refine aB ?_) | (refine aE rfl rfl ?_; ((first | refine aH ?_ | refine aC rfl ?_)); refine aB ?_))
  refine eK (bs := bs6) rfl rfl (mO bw x6) (fun _ h => (by cases h)) rfl rfl (dA hb6) (fun bs7 v7 h7 => ?_)
  refine aB ?_
  have hb7 := dB h7 hb6
  repeat' (first | (apply aF) | (apply aA) | (apply aG) | (apply aD) | (apply aP; exact rfl; ((refine aQ rfl cJ rfl ?_)); refine aB ?_) | (refine aE rfl rfl ?_; ((first | refine aH ?_ | refine aC rfl ?_)); refine aB ?_))
  refine eK (bs := bs7) rfl rfl (jK bw Ax7 cx7 x7 hx7) (bL aV (fun _ h => (by cases h))) rfl rfl (dA hb7) (fun bs8 v8 h8 => ?_)
  refine aB ?_
  have hb8 := dB h8 hb7
  repeat' (first | (apply aF) | (apply aA) | (apply aG) | (apply aD) | (apply aP; exact rfl; ((refine aQ rfl cJ rfl ?_)); refine aB ?_) | (refine aE rfl rfl ?_; ((first | refine aH ?_ | refine aC rfl ?_)); refine aB ?_))
  refine eK (bs := bs8) rfl rfl (jK bw Ax8 cx8 x8 hx8) (bL aV (fun _ h => (by cases h))) rfl rfl (dA hb8) (fun bs9 v9 h9 => ?_)
  refine aB ?_
  have hb9 := dB h9 hb8
  repeat' (first | (apply aF) | (apply aA) | (apply aG) | (apply aD) | (apply aP; exact rfl; ((refine aZ rfl cJ rfl ?_)); refine aB ?_) | (refine aE rfl rfl ?_; ((refine aH ?_)); refine aB ?_))
  refine eK (bs := bs9) rfl rfl (e7 bw x0 hx0 x1 hx1 x2 hx2 x3 hx3 x4 hx4 x5 hx5 x6 Ax7 cx7 x7 hx7 Ax8 cx8 x8 hx8 Ax9 cx9 x9 hx9 Ax10 cx10 x10 hx10 Ax11 cx11 x11 hx11 Ax12 cx12 x12 hx12 Ax13 cx13 x13 hx13 Ax14 cx14 x14 hx14 x15 hx15) (fun p hp => List.mem_cons_of_mem _ (hfs p hp)) rfl rfl (dA hb9) (fun bs10 v10 h10 => ?_)
  refine aB ?_
  have hb10 := dB h10 hb9
  repeat' (first | (apply aF) | (apply aA) | (apply aG) | (apply aD) | (apply aP; exact rfl; ((refine aQ rfl cJ rfl ?_)); refine aB ?_) | (refine aE rfl rfl ?_; ((first | refine aH ?_ | refine aC rfl ?_)); refine aB ?_))
  refine eK (bs := bs10) rfl rfl (cX bw x15 hx15) (fun _ h => (by cases h)) rfl rfl hb10 (fun bs11 v11 h11 => ?_)
  refine aB ?_
  have hW : Wt headMa out bs11 := Wt.eq (h1.trans (h2.trans (h3.trans (h4.trans (h5.trans (h6.trans (h7.trans (h8.trans (h9.trans (h10.trans h11)))))))))) hout.symm
  obtain ⟨w1, w2, w3, w4⟩ := hW
  have h3 : headMa.length = 3 := rfl
  rw [h3] at w2 w3 w4
  rcases Nat.lt_or_ge 250000 bs11.length with hf | hf
  · skip
    repeat' (first | (refine dS rfl ?_; refine aY fA ?_; refine jP bw bs11 v11 hf (by omega) ?_; refine aB ?_) | (apply aF) | (apply aA) | (apply bN) | (apply aK; exact rfl) | (apply aG) | (apply aD) | (apply bO) | (apply bD; exact rfl; ((refine aO (i := 2) rfl cW rfl (by rfl) (by simp) (by simp [Value.oneCell']) ?_)); refine aB ?_; refine cA ?_) | (refine aE rfl rfl ?_; ((first | refine aH ?_ | refine dN gI ?_)); refine aB ?_))
    refine bC (.inl rfl) (dM rfl (dG (i := 2) rfl rfl rfl)) (cG H (Sl (.slice none 0 0) ([] : List UInt8) :: R) (fun w hs => (hs.weaken bU cZ).sl_nil UInt8) ?_)
    have e : tL out = ([], 2) := by
      unfold tL
      rw [if_neg (fun hh => by
        have := w3 hh
        rw [this, List.length_append, h3] at hf
        omega)]
    rw [e] at k
    exact k none 0
  · have hle : 3 + out.length ≤ 250000 := by
      rcases Nat.lt_or_ge 250000 (3 + out.length) with g | g
      · have := w4 g; omega
      · exact g
    have he := w3 hle
    have e : tL out = (bs11, 0) := by unfold tL; rw [if_pos hle, he]
    rw [e] at k
    repeat' (first | (refine dS rfl ?_; refine aY fA ?_; refine jQ bw bs11 v11 hf ?_; refine aB ?_) | (refine aP rfl ?_; refine aM (i := 1) rfl rfl rfl ?_; refine aB ?_; refine jX 0 rfl (fun A9 c9 hv9 => ?_); subst hv9; refine cA ?_) | (apply aF) | (apply aA) | (apply bN) | (apply bE) | (apply aI; exact rfl) | (apply aG) | (apply aD) | (apply bD; exact rfl; ((refine aO (i := 1) rfl cW rfl (by rfl) (by simp) (by simp [Value.oneCell']) ?_)); refine aB ?_; refine cA ?_) | (refine aE rfl rfl ?_; ((first | refine aH ?_ | refine aW rfl ?_ | refine aC rfl ?_ | refine dN gI ?_)); refine aB ?_))
    exact bC (.inl rfl) (dM rfl (dG (i := 1) rfl rfl rfl)) (cG H (Sl (.slice A9 bs11.length c9) bs11 :: R) (fun w hs => hs.weaken bU cZ) (k A9 c9))
theorem yG {w0 : World} {H : List Hp} {R : List MP} {K : Value → List Hp → List MP → Prop} (m : jT) (y : Unp.Y jT) (hok : Unp.ok m y) (hb : (stB m).length ≤ 1000000000) (hfs : ∀ p ∈ Unp.fs m y, p ∈ R) (k : KC K (encM m) H R) : CallsK Tryz.prog w0 8 #[.agg (Unp.cs m y).toArray] H R K := by
  obtain ⟨n1, n2, n3, n4, n5, n6, b1, l1, l2, lF, lB, lS, lV, lT, lC, n7⟩ := m
  obtain ⟨u1, u2, u3, u4, u5, u6, u7, ⟨A1, c1⟩, ⟨A2, c2⟩, ⟨AF, cF⟩, ⟨AB, cB⟩, ⟨AS, cS⟩, ⟨AV, cV⟩, ⟨AT, cT⟩, ⟨AC, cC⟩, u8⟩ := y
  obtain ⟨h1, h2, h3, h4, h5, h6, _, g1, g2, gF, gB, gS, gV, gT, gC, h7⟩ := hok
  have hl : (stB (n1, n2, n3, n4, n5, n6, b1, l1, l2, lF, lB, lS, lV, lT, lC, n7)).length = 3 + (Cod.enc (α := jT) (n1, n2, n3, n4, n5, n6, b1, l1, l2, lF, lB, lS, lV, lT, lC, n7)).length := by rw [stB, List.length_append]; rfl
  exact yO n1 h1 n2 h2 n3 h3 n4 h4 n5 h5 n6 h6 b1 A1 c1 l1 (Nat.le_trans g1.1 g1.2) A2 c2 l2 (Nat.le_trans g2.1 g2.2) AF cF lF (Nat.le_trans gF.1 gF.2) AB cB lB (Nat.le_trans gB.1 gB.2) AS cS lS (Nat.le_trans gS.1 gS.2) AV cV lV (Nat.le_trans gV.1 gV.2) AT cT lT (Nat.le_trans gT.1 gT.2) AC cC lC (Nat.le_trans gC.1 gC.2) n7 h7 (Cod.enc (α := jT) (n1, n2, n3, n4, n5, n6, b1, l1, l2, lF, lB, lS, lV, lT, lC, n7)) (by simp only [Cod.enc, fY, List.append_assoc]) (by omega) hfs k
end Go.Proofs.YtggdljhmbckpmaaGreat
