/- The reference's writer: the lists of a state: walk. -/
import Derived.Test.YtggdljhmbckpmaaGreatX4J
set_option linter.unusedVariables false
set_option linter.unusedSimpArgs false
namespace Go.Proofs.YtggdljhmbckpmaaGreat
open Go Go.RowKit
set_option maxRecDepth 100000
set_option maxHeartbeats 3200000

theorem rlists_x {w0 : World} (bw : Nat) (x0 : Int) (hx0 : dO x0) (x1 : Int) (hx1 : dO x1) (x2 : Int) (hx2 : dO x2) (x3 : Int) (hx3 : dO x3) (x4 : Int) (hx4 : dO x4) (x5 : Int) (hx5 : dO x5) (x6 : Bool) (Ax7 : Option Addr) (cx7 : Nat) (x7 : List Int) (hx7 : x7.length ≤ 9223372036854775807) (Ax8 : Option Addr) (cx8 : Nat) (x8 : List Int) (hx8 : x8.length ≤ 9223372036854775807) (Ax9 : Option Addr) (cx9 : Nat) (x9 : List pU) (hx9 : x9.length ≤ 9223372036854775807) (Ax10 : Option Addr) (cx10 : Nat) (x10 : List pP) (hx10 : x10.length ≤ 9223372036854775807) (Ax11 : Option Addr) (cx11 : Nat) (x11 : List pR) (hx11 : x11.length ≤ 9223372036854775807) (Ax12 : Option Addr) (cx12 : Nat) (x12 : List mU) (hx12 : x12.length ≤ 9223372036854775807) (Ax13 : Option Addr) (cx13 : Nat) (x13 : List nJ) (hx13 : x13.length ≤ 9223372036854775807) (Ax14 : Option Addr) (cx14 : Nat) (x14 : List pL) (hx14 : x14.length ≤ 9223372036854775807) (x15 : Int) (hx15 : dO x15) : Wf Tryz.prog w0 [Sl (.slice Ax7 x7.length cx7) x7, Sl (.slice Ax8 x8.length cx8) x8, Sl (.slice Ax9 x9.length cx9) x9, Sl (.slice Ax10 x10.length cx10) x10, Sl (.slice Ax11 x11.length cx11) x11, Sl (.slice Ax12 x12.length cx12) x12, Sl (.slice Ax13 x13.length cx13) x13, Sl (.slice Ax14 x14.length cx14) x14] 34 [.pointer (some ⟨bw, 0, none⟩), .agg #[.int .i64 x0, .int .i64 x1, .int .i64 x2, .int .i64 x3, .int .i64 x4, .int .i64 x5, .bool x6, .slice Ax7 x7.length cx7, .slice Ax8 x8.length cx8, .slice Ax9 x9.length cx9, .slice Ax10 x10.length cx10, .slice Ax11 x11.length cx11, .slice Ax12 x12.length cx12, .slice Ax13 x13.length cx13, .slice Ax14 x14.length cx14, .int .i64 x15]] bw (dA x9.length ++ ((x9.flatMap Cod.enc) ++ (dA x10.length ++ ((x10.flatMap Cod.enc) ++ (dA x11.length ++ ((x11.flatMap Cod.enc) ++ (dA x12.length ++ ((x12.flatMap Cod.enc) ++ (dA x13.length ++ ((x13.flatMap Cod.enc) ++ (dA x14.length ++ ((x14.flatMap Cod.enc))))))))))))) := by
  intro H R K bs v hsub hb hk
  have hb0 := hb
  clear hb
  have hS0 : Sl (.slice Ax7 x7.length cx7) x7 ∈ R := hsub _ dB
  have hS1 : Sl (.slice Ax8 x8.length cx8) x8 ∈ R := hsub _ dB
  have hS2 : Sl (.slice Ax9 x9.length cx9) x9 ∈ R := hsub _ dB
  have hS3 : Sl (.slice Ax10 x10.length cx10) x10 ∈ R := hsub _ dB
  have hS4 : Sl (.slice Ax11 x11.length cx11) x11 ∈ R := hsub _ dB
  have hS5 : Sl (.slice Ax12 x12.length cx12) x12 ∈ R := hsub _ dB
  have hS6 : Sl (.slice Ax13 x13.length cx13) x13 ∈ R := hsub _ dB
  have hS7 : Sl (.slice Ax14 x14.length cx14) x14 ∈ R := hsub _ dB
  clear hsub
  refine bV Tryz.func34 rfl Tryz.ntmps34 fI ?_
  apply aF; apply aA
  repeat' ((refine bJ rfl rfl ?_; ((refine dX cW (fun b => ?_))); refine aB ?_))
  revert b
  intro bx
  apply aH; apply aD
  refine fO 0 rfl ?_
  refine jB tH ?_
  apply aF; apply aA
  repeat' (first | (apply aP; exact rfl; ((refine aQ rfl cL rfl ?_)); refine aB ?_) | (refine aE rfl rfl ?_; ((first | refine aG ?_ | refine aC rfl ?_ | refine bS rfl ?_)); refine aB ?_))
  refine fJ rfl rfl (dH bw x9.length (by simp only [dO]; omega)) (fun _ h => (by cases h)) rfl rfl (dM hb0) (fun bs1 v1 h1 => ?_)
  refine aB ?_
  have hb1 := dL h1 hb0
  apply aH; apply aD
  refine jJ [4, 15, 16, 17, 18, 19, 20, 21, 22, 23, 24, 25, 26, 27, 28, 29, 30, 31, 32, 33] (fun j H' R' => R' = (At bx 0 [.int .i64 x0, .int .i64 x1, .int .i64 x2, .int .i64 x3, .int .i64 x4, .int .i64 x5, .bool x6, .slice Ax7 x7.length cx7, .slice Ax8 x8.length cx8, .slice Ax9 x9.length cx9, .slice Ax10 x10.length cx10, .slice Ax11 x11.length cx11, .slice Ax12 x12.length cx12, .slice Ax13 x13.length cx13, .slice Ax14 x14.length cx14, .int .i64 x15] :: R) ∧ ∃ bs' v', H' = .row v' 5 1 bs'.length (bC bs') :: .blk bw [v'] 90 :: H ∧ Wt bs1 (x9.flatMap Cod.enc) bs') ?_ ?_
  · skip
    repeat' (first | (apply aF) | (apply aA) | (apply aV) | (apply aH) | (apply aD) | (refine aE rfl rfl ?_; ((refine aY ?_)); refine aB ?_))
    have hbl := (dM hb1)
    refine cM [4, 15, 16, 17, 18, 19, 20, 21, 22, 23, 24, 25, 26, 27, 28, 29, 30, 31, 32, 33] (fun m j H2 R2 => ∃ (i : Nat) (bs' : List UInt8) (v' : Value), i + m = x9.length ∧ j 4 = .int .i64 (i : Int) ∧ (∀ p ∈ (At bx 0 [.int .i64 x0, .int .i64 x1, .int .i64 x2, .int .i64 x3, .int .i64 x4, .int .i64 x5, .bool x6, .slice Ax7 x7.length cx7, .slice Ax8 x8.length cx8, .slice Ax9 x9.length cx9, .slice Ax10 x10.length cx10, .slice Ax11 x11.length cx11, .slice Ax12 x12.length cx12, .slice Ax13 x13.length cx13, .slice Ax14 x14.length cx14, .int .i64 x15] :: R), p ∈ R2) ∧ H2 = .row v' 5 1 bs'.length (bC bs') :: .blk bw [v'] 90 :: H ∧ Wt bs1 ((x9.take i).flatMap Cod.enc) bs') x9.length eS ⟨0, bs1, v1, by omega, rfl, fun _ h => h, rfl, Wt.nil bs1⟩ ?_
    rintro m j' H2 R2 ⟨i, bs', v', him, hc, hR2, hH2, hW⟩
    subst hH2
    have hat2 := hR2 _ List.mem_cons_self
    have hm2 := hR2 _ (List.mem_cons_of_mem _ hS2)
    refine dD (by simp only [eF, List.foldl_cons, List.foldl_nil, List.set_cons_succ, List.set_cons_zero, hc]; rfl) ?_
    have hWl := hW.2.1
    have htl := eV (enc := Cod.enc) x9 i
    rcases Nat.lt_or_ge i x9.length with hlt | hge
    · rcases Nat.lt_or_ge 250000 bs'.length with hf | hf
      · have hW := (hW.over (o2 := (x9.drop i).flatMap Cod.enc) hf).eq (gD x9 i)
        repeat' (first | (refine dK rfl ?_; refine aT fA ?_; refine kW bw bs' v' hf aO ?_; refine aB ?_) | (apply aF) | (apply aA) | (apply cG) | (apply aJ; exact rfl) | (apply aH) | (apply aD) | (apply aW) | (apply aS) | (apply aP; exact rfl; ((refine aQ rfl cL rfl ?_)); refine aB ?_) | (apply aU; exact rfl; ((refine bQ rfl rfl (fun h => ?_) (fun h => ?_))) <;> (first | (exfalso; omega) | refine aB ?_)) | (refine aE rfl rfl ?_; ((first | refine aG ?_ | refine bX rfl eR ?_ | refine aC rfl ?_ | refine bS rfl ?_ | refine dJ rfl ?_)); refine aB ?_))
        exact fQ (.row v' 5 1 bs'.length (bC bs') :: .blk bw [v'] 90 :: H) (At bx 0 [.int .i64 x0, .int .i64 x1, .int .i64 x2, .int .i64 x3, .int .i64 x4, .int .i64 x5, .bool x6, .slice Ax7 x7.length cx7, .slice Ax8 x8.length cx8, .slice Ax9 x9.length cx9, .slice Ax10 x10.length cx10, .slice Ax11 x11.length cx11, .slice Ax12 x12.length cx12, .slice Ax13 x13.length cx13, .slice Ax14 x14.length cx14, .int .i64 x15] :: R) eS ⟨rfl, bs', v', rfl, hW⟩ (fun w hs => hs.weaken eB hR2)
      · have ht := jM (enc := Cod.enc) x9 i hlt
        have hle := eV (enc := Cod.enc) x9 (i + 1)
        rw [ht, List.length_append] at hle
        repeat' (first | (refine dK rfl ?_; refine aT fA ?_; refine kV bw bs' v' hf ?_; refine aB ?_) | (apply gZ; exact rfl; refine dZ (xs := x9) rfl rfl aX rfl (d := x9[i]) (by simp only [Int.toNat_natCast]; exact List.getElem?_eq_getElem aO) aO (fun b_ o y hy => ?_); refine aB ?_) | (refine aP rfl ?_; refine bD rfl List.mem_cons_self (cU (UnpL.len _ _)) ?_; refine aB ?_) | (apply aF) | (apply aA) | (apply aV) | (apply bF) | (apply aK; exact rfl) | (apply aH) | (apply aD) | (apply aP; exact rfl; ((refine aQ rfl cL rfl ?_)); refine aB ?_) | (apply aU; exact rfl; ((refine bQ rfl rfl (fun h => ?_) (fun h => ?_))) <;> (first | (exfalso; omega) | refine aB ?_)) | (refine aE rfl rfl ?_; ((first | refine aG ?_ | refine bX rfl eR ?_ | refine aC rfl ?_ | refine bS rfl ?_ | refine dJ rfl ?_)); refine aB ?_))
        refine fJ rfl rfl (rframe_w bw x9[i] y hy) (fun p hp => List.mem_cons_of_mem _ (List.mem_append_left _ hp)) rfl rfl aO (fun bs2 v2 h2 => ?_)
        refine aB ?_
        repeat' (first | (apply aA) | (apply aH) | (apply aD) | (apply bU) | (apply aU; exact rfl; ((refine bM rfl rfl aO aO ?_)); refine aB ?_) | (refine aE rfl rfl ?_; ((first | refine aG ?_ | refine aY ?_)); refine aB ?_))
        exact cJ (m - 1) (.row v2 5 1 bs2.length (bC bs2) :: .blk bw [v2] 90 :: H) (At bx 0 [.int .i64 x0, .int .i64 x1, .int .i64 x2, .int .i64 x3, .int .i64 x4, .int .i64 x5, .bool x6, .slice Ax7 x7.length cx7, .slice Ax8 x8.length cx8, .slice Ax9 x9.length cx9, .slice Ax10 x10.length cx10, .slice Ax11 x11.length cx11, .slice Ax12 x12.length cx12, .slice Ax13 x13.length cx13, .slice Ax14 x14.length cx14, .int .i64 x15] :: R) aO eS ⟨i + 1, bs2, v2, by omega, rfl, fun _ h => h, rfl, by rw [ht]; exact hW.trans h2⟩ (fun w hs => hs.weaken eB (fun p hp => List.mem_cons_of_mem _ (List.mem_append_right _ (hR2 p hp))))
    · rw [List.take_of_length_le hge] at hW
      repeat' (first | (apply aF) | (apply aA) | (apply cG) | (apply aJ; exact rfl) | (apply aH) | (apply aD) | (apply aW) | (apply aS) | (apply aP; exact rfl; ((refine aQ rfl cL rfl ?_)); refine aB ?_) | (apply aU; exact rfl; ((refine bQ rfl rfl (fun h => ?_) (fun h => ?_))) <;> (first | (exfalso; omega) | refine aB ?_)) | (refine aE rfl rfl ?_; ((first | refine aG ?_ | refine cH rfl eR ?_ | refine aC rfl ?_ | refine bS rfl ?_)); refine aB ?_) | (refine cX rfl ?_; refine aB ?_))
      exact fQ (.row v' 5 1 bs'.length (bC bs') :: .blk bw [v'] 90 :: H) (At bx 0 [.int .i64 x0, .int .i64 x1, .int .i64 x2, .int .i64 x3, .int .i64 x4, .int .i64 x5, .bool x6, .slice Ax7 x7.length cx7, .slice Ax8 x8.length cx8, .slice Ax9 x9.length cx9, .slice Ax10 x10.length cx10, .slice Ax11 x11.length cx11, .slice Ax12 x12.length cx12, .slice Ax13 x13.length cx13, .slice Ax14 x14.length cx14, .int .i64 x15] :: R) eS ⟨rfl, bs', v', rfl, hW⟩ (fun w hs => hs.weaken eB hR2)
  rintro jj1 H' R' ⟨hRR, bs2, v2, hHH, h2⟩
  subst hRR hHH
  refine dD (by simp only [eF, List.foldl_cons, List.foldl_nil, List.set_cons_succ, List.set_cons_zero]; rfl) ?_
  have hb2 := dL h2 hb1
  apply aF; apply aA
  repeat' (first | (apply aP; exact rfl; ((refine aQ rfl cL rfl ?_)); refine aB ?_) | (refine aE rfl rfl ?_; ((first | refine aG ?_ | refine aC rfl ?_ | refine bS rfl ?_)); refine aB ?_))
  refine fJ rfl rfl (dH bw x10.length (by simp only [dO]; omega)) (fun _ h => (by cases h)) rfl rfl (dM hb2) (fun bs3 v3 h3 => ?_)
  refine aB ?_
  have hb3 := dL h3 hb2
  apply aH; apply aD
  refine jJ [5, 39, 40, 41, 42, 43, 44, 45, 46, 47, 48, 49, 50, 51, 52, 53, 54, 55, 56, 57] (fun j H' R' => R' = (At bx 0 [.int .i64 x0, .int .i64 x1, .int .i64 x2, .int .i64 x3, .int .i64 x4, .int .i64 x5, .bool x6, .slice Ax7 x7.length cx7, .slice Ax8 x8.length cx8, .slice Ax9 x9.length cx9, .slice Ax10 x10.length cx10, .slice Ax11 x11.length cx11, .slice Ax12 x12.length cx12, .slice Ax13 x13.length cx13, .slice Ax14 x14.length cx14, .int .i64 x15] :: R) ∧ ∃ bs' v', H' = .row v' 5 1 bs'.length (bC bs') :: .blk bw [v'] 90 :: H ∧ Wt bs3 (x10.flatMap Cod.enc) bs') ?_ ?_
  · skip
    repeat' (first | (apply aF) | (apply aA) | (apply aV) | (apply aH) | (apply aD) | (refine aE rfl rfl ?_; ((refine aY ?_)); refine aB ?_))
    have hbl := (dM hb3)
    refine cM [5, 39, 40, 41, 42, 43, 44, 45, 46, 47, 48, 49, 50, 51, 52, 53, 54, 55, 56, 57] (fun m j H2 R2 => ∃ (i : Nat) (bs' : List UInt8) (v' : Value), i + m = x10.length ∧ j 5 = .int .i64 (i : Int) ∧ (∀ p ∈ (At bx 0 [.int .i64 x0, .int .i64 x1, .int .i64 x2, .int .i64 x3, .int .i64 x4, .int .i64 x5, .bool x6, .slice Ax7 x7.length cx7, .slice Ax8 x8.length cx8, .slice Ax9 x9.length cx9, .slice Ax10 x10.length cx10, .slice Ax11 x11.length cx11, .slice Ax12 x12.length cx12, .slice Ax13 x13.length cx13, .slice Ax14 x14.length cx14, .int .i64 x15] :: R), p ∈ R2) ∧ H2 = .row v' 5 1 bs'.length (bC bs') :: .blk bw [v'] 90 :: H ∧ Wt bs3 ((x10.take i).flatMap Cod.enc) bs') x10.length eS ⟨0, bs3, v3, by omega, rfl, fun _ h => h, rfl, Wt.nil bs3⟩ ?_
    rintro m j' H2 R2 ⟨i, bs', v', him, hc, hR2, hH2, hW⟩
    subst hH2
    have hat2 := hR2 _ List.mem_cons_self
    have hm2 := hR2 _ (List.mem_cons_of_mem _ hS3)
    refine dD (by simp only [eF, List.foldl_cons, List.foldl_nil, List.set_cons_succ, List.set_cons_zero, hc]; rfl) ?_
    have hWl := hW.2.1
    have htl := eV (enc := Cod.enc) x10 i
    rcases Nat.lt_or_ge i x10.length with hlt | hge
    · rcases Nat.lt_or_ge 250000 bs'.length with hf | hf
      · have hW := (hW.over (o2 := (x10.drop i).flatMap Cod.enc) hf).eq (gD x10 i)
        repeat' (first | (refine dK rfl ?_; refine aT fA ?_; refine kW bw bs' v' hf aO ?_; refine aB ?_) | (apply aF) | (apply aA) | (apply cG) | (apply aJ; exact rfl) | (apply aH) | (apply aD) | (apply aW) | (apply aS) | (apply aP; exact rfl; ((refine aQ rfl cL rfl ?_)); refine aB ?_) | (apply aU; exact rfl; ((refine bQ rfl rfl (fun h => ?_) (fun h => ?_))) <;> (first | (exfalso; omega) | refine aB ?_)) | (refine aE rfl rfl ?_; ((first | refine aG ?_ | refine bX rfl eR ?_ | refine aC rfl ?_ | refine bS rfl ?_ | refine dJ rfl ?_)); refine aB ?_))
        exact fQ (.row v' 5 1 bs'.length (bC bs') :: .blk bw [v'] 90 :: H) (At bx 0 [.int .i64 x0, .int .i64 x1, .int .i64 x2, .int .i64 x3, .int .i64 x4, .int .i64 x5, .bool x6, .slice Ax7 x7.length cx7, .slice Ax8 x8.length cx8, .slice Ax9 x9.length cx9, .slice Ax10 x10.length cx10, .slice Ax11 x11.length cx11, .slice Ax12 x12.length cx12, .slice Ax13 x13.length cx13, .slice Ax14 x14.length cx14, .int .i64 x15] :: R) eS ⟨rfl, bs', v', rfl, hW⟩ (fun w hs => hs.weaken eB hR2)
      · have ht := jM (enc := Cod.enc) x10 i hlt
        have hle := eV (enc := Cod.enc) x10 (i + 1)
        rw [ht, List.length_append] at hle
        repeat' (first | (refine dK rfl ?_; refine aT fA ?_; refine kV bw bs' v' hf ?_; refine aB ?_) | (apply gZ; exact rfl; refine dZ (xs := x10) rfl rfl aX rfl (d := x10[i]) (by simp only [Int.toNat_natCast]; exact List.getElem?_eq_getElem aO) aO (fun b_ o y hy => ?_); refine aB ?_) | (refine aP rfl ?_; refine bD rfl List.mem_cons_self (cU (UnpL.len _ _)) ?_; refine aB ?_) | (apply aF) | (apply aA) | (apply aV) | (apply bF) | (apply aK; exact rfl) | (apply aH) | (apply aD) | (apply aP; exact rfl; ((refine aQ rfl cL rfl ?_)); refine aB ?_) | (apply aU; exact rfl; ((refine bQ rfl rfl (fun h => ?_) (fun h => ?_))) <;> (first | (exfalso; omega) | refine aB ?_)) | (refine aE rfl rfl ?_; ((first | refine aG ?_ | refine bX rfl eR ?_ | refine aC rfl ?_ | refine bS rfl ?_ | refine dJ rfl ?_)); refine aB ?_))
        refine fJ rfl rfl (yV bw x10[i] y hy) (fun p hp => List.mem_cons_of_mem _ (List.mem_append_left _ hp)) rfl rfl aO (fun bs2 v2 h2 => ?_)
        refine aB ?_
        repeat' (first | (apply aA) | (apply aH) | (apply aD) | (apply bU) | (apply aU; exact rfl; ((refine bM rfl rfl aO aO ?_)); refine aB ?_) | (refine aE rfl rfl ?_; ((first | refine aG ?_ | refine aY ?_)); refine aB ?_))
        exact cJ (m - 1) (.row v2 5 1 bs2.length (bC bs2) :: .blk bw [v2] 90 :: H) (At bx 0 [.int .i64 x0, .int .i64 x1, .int .i64 x2, .int .i64 x3, .int .i64 x4, .int .i64 x5, .bool x6, .slice Ax7 x7.length cx7, .slice Ax8 x8.length cx8, .slice Ax9 x9.length cx9, .slice Ax10 x10.length cx10, .slice Ax11 x11.length cx11, .slice Ax12 x12.length cx12, .slice Ax13 x13.length cx13, .slice Ax14 x14.length cx14, .int .i64 x15] :: R) aO eS ⟨i + 1, bs2, v2, by omega, rfl, fun _ h => h, rfl, by rw [ht]; exact hW.trans h2⟩ (fun w hs => hs.weaken eB (fun p hp => List.mem_cons_of_mem _ (List.mem_append_right _ (hR2 p hp))))
    · rw [List.take_of_length_le hge] at hW
      repeat' (first | (apply aF) | (apply aA) | (apply cG) | (apply aJ; exact rfl) | (apply aH) | (apply aD) | (apply aW) | (apply aS) | (apply aP; exact rfl; ((refine aQ rfl cL rfl ?_)); refine aB ?_) | (apply aU; exact rfl; ((refine bQ rfl rfl (fun h => ?_) (fun h => ?_))) <;> (first | (exfalso; omega) | refine aB ?_)) | (refine aE rfl rfl ?_; ((first | refine aG ?_ | refine cH rfl eR ?_ | refine aC rfl ?_ | refine bS rfl ?_)); refine aB ?_) | (refine cX rfl ?_; refine aB ?_))
      exact fQ (.row v' 5 1 bs'.length (bC bs') :: .blk bw [v'] 90 :: H) (At bx 0 [.int .i64 x0, .int .i64 x1, .int .i64 x2, .int .i64 x3, .int .i64 x4, .int .i64 x5, .bool x6, .slice Ax7 x7.length cx7, .slice Ax8 x8.length cx8, .slice Ax9 x9.length cx9, .slice Ax10 x10.length cx10, .slice Ax11 x11.length cx11, .slice Ax12 x12.length cx12, .slice Ax13 x13.length cx13, .slice Ax14 x14.length cx14, .int .i64 x15] :: R) eS ⟨rfl, bs', v', rfl, hW⟩ (fun w hs => hs.weaken eB hR2)
  rintro jj3 H' R' ⟨hRR, bs4, v4, hHH, h4⟩
  subst hRR hHH
  refine dD (by simp only [eF, List.foldl_cons, List.foldl_nil, List.set_cons_succ, List.set_cons_zero]; rfl) ?_
  have hb4 := dL h4 hb3
  apply aF; apply aA
  repeat' (first | (apply aP; exact rfl; ((refine aQ rfl cL rfl ?_)); refine aB ?_) | (refine aE rfl rfl ?_; ((first | refine aG ?_ | refine aC rfl ?_ | refine bS rfl ?_)); refine aB ?_))
  refine fJ rfl rfl (dH bw x11.length (by simp only [dO]; omega)) (fun _ h => (by cases h)) rfl rfl (dM hb4) (fun bs5 v5 h5 => ?_)
  refine aB ?_
  have hb5 := dL h5 hb4
  apply aH; apply aD
  refine jJ [6, 63, 64, 65, 66, 67, 68, 69, 70, 71, 72, 73, 74, 75, 76, 77, 78, 79, 80, 81] (fun j H' R' => R' = (At bx 0 [.int .i64 x0, .int .i64 x1, .int .i64 x2, .int .i64 x3, .int .i64 x4, .int .i64 x5, .bool x6, .slice Ax7 x7.length cx7, .slice Ax8 x8.length cx8, .slice Ax9 x9.length cx9, .slice Ax10 x10.length cx10, .slice Ax11 x11.length cx11, .slice Ax12 x12.length cx12, .slice Ax13 x13.length cx13, .slice Ax14 x14.length cx14, .int .i64 x15] :: R) ∧ ∃ bs' v', H' = .row v' 5 1 bs'.length (bC bs') :: .blk bw [v'] 90 :: H ∧ Wt bs5 (x11.flatMap Cod.enc) bs') ?_ ?_
  · skip
    repeat' (first | (apply aF) | (apply aA) | (apply aV) | (apply aH) | (apply aD) | (refine aE rfl rfl ?_; ((refine aY ?_)); refine aB ?_))
    have hbl := (dM hb5)
    refine cM [6, 63, 64, 65, 66, 67, 68, 69, 70, 71, 72, 73, 74, 75, 76, 77, 78, 79, 80, 81] (fun m j H2 R2 => ∃ (i : Nat) (bs' : List UInt8) (v' : Value), i + m = x11.length ∧ j 6 = .int .i64 (i : Int) ∧ (∀ p ∈ (At bx 0 [.int .i64 x0, .int .i64 x1, .int .i64 x2, .int .i64 x3, .int .i64 x4, .int .i64 x5, .bool x6, .slice Ax7 x7.length cx7, .slice Ax8 x8.length cx8, .slice Ax9 x9.length cx9, .slice Ax10 x10.length cx10, .slice Ax11 x11.length cx11, .slice Ax12 x12.length cx12, .slice Ax13 x13.length cx13, .slice Ax14 x14.length cx14, .int .i64 x15] :: R), p ∈ R2) ∧ H2 = .row v' 5 1 bs'.length (bC bs') :: .blk bw [v'] 90 :: H ∧ Wt bs5 ((x11.take i).flatMap Cod.enc) bs') x11.length eS ⟨0, bs5, v5, by omega, rfl, fun _ h => h, rfl, Wt.nil bs5⟩ ?_
    rintro m j' H2 R2 ⟨i, bs', v', him, hc, hR2, hH2, hW⟩
    subst hH2
    have hat2 := hR2 _ List.mem_cons_self
    have hm2 := hR2 _ (List.mem_cons_of_mem _ hS4)
    refine dD (by simp only [eF, List.foldl_cons, List.foldl_nil, List.set_cons_succ, List.set_cons_zero, hc]; rfl) ?_
    have hWl := hW.2.1
    have htl := eV (enc := Cod.enc) x11 i
    rcases Nat.lt_or_ge i x11.length with hlt | hge
    · rcases Nat.lt_or_ge 250000 bs'.length with hf | hf
      · have hW := (hW.over (o2 := (x11.drop i).flatMap Cod.enc) hf).eq (gD x11 i)
        repeat' (first | (refine dK rfl ?_; refine aT fA ?_; refine kW bw bs' v' hf aO ?_; refine aB ?_) | (apply aF) | (apply aA) | (apply cG) | (apply aJ; exact rfl) | (apply aH) | (apply aD) | (apply aW) | (apply aS) | (apply aP; exact rfl; ((refine aQ rfl cL rfl ?_)); refine aB ?_) | (apply aU; exact rfl; ((refine bQ rfl rfl (fun h => ?_) (fun h => ?_))) <;> (first | (exfalso; omega) | refine aB ?_)) | (refine aE rfl rfl ?_; ((first | refine aG ?_ | refine bX rfl eR ?_ | refine aC rfl ?_ | refine bS rfl ?_ | refine dJ rfl ?_)); refine aB ?_))
        exact fQ (.row v' 5 1 bs'.length (bC bs') :: .blk bw [v'] 90 :: H) (At bx 0 [.int .i64 x0, .int .i64 x1, .int .i64 x2, .int .i64 x3, .int .i64 x4, .int .i64 x5, .bool x6, .slice Ax7 x7.length cx7, .slice Ax8 x8.length cx8, .slice Ax9 x9.length cx9, .slice Ax10 x10.length cx10, .slice Ax11 x11.length cx11, .slice Ax12 x12.length cx12, .slice Ax13 x13.length cx13, .slice Ax14 x14.length cx14, .int .i64 x15] :: R) eS ⟨rfl, bs', v', rfl, hW⟩ (fun w hs => hs.weaken eB hR2)
      · have ht := jM (enc := Cod.enc) x11 i hlt
        have hle := eV (enc := Cod.enc) x11 (i + 1)
        rw [ht, List.length_append] at hle
        repeat' (first | (refine dK rfl ?_; refine aT fA ?_; refine kV bw bs' v' hf ?_; refine aB ?_) | (apply gZ; exact rfl; refine dZ (xs := x11) rfl rfl aX rfl (d := x11[i]) (by simp only [Int.toNat_natCast]; exact List.getElem?_eq_getElem aO) aO (fun b_ o y hy => ?_); refine aB ?_) | (refine aP rfl ?_; refine bD rfl List.mem_cons_self (cU (UnpL.len _ _)) ?_; refine aB ?_) | (apply aF) | (apply aA) | (apply aV) | (apply bF) | (apply aK; exact rfl) | (apply aH) | (apply aD) | (apply aP; exact rfl; ((refine aQ rfl cL rfl ?_)); refine aB ?_) | (apply aU; exact rfl; ((refine bQ rfl rfl (fun h => ?_) (fun h => ?_))) <;> (first | (exfalso; omega) | refine aB ?_)) | (refine aE rfl rfl ?_; ((first | refine aG ?_ | refine bX rfl eR ?_ | refine aC rfl ?_ | refine bS rfl ?_ | refine dJ rfl ?_)); refine aB ?_))
        refine fJ rfl rfl (rscope_w bw x11[i] y hy) (fun p hp => List.mem_cons_of_mem _ (List.mem_append_left _ hp)) rfl rfl aO (fun bs2 v2 h2 => ?_)
        refine aB ?_
        repeat' (first | (apply aA) | (apply aH) | (apply aD) | (apply bU) | (apply aU; exact rfl; ((refine bM rfl rfl aO aO ?_)); refine aB ?_) | (refine aE rfl rfl ?_; ((first | refine aG ?_ | refine aY ?_)); refine aB ?_))
        exact cJ (m - 1) (.row v2 5 1 bs2.length (bC bs2) :: .blk bw [v2] 90 :: H) (At bx 0 [.int .i64 x0, .int .i64 x1, .int .i64 x2, .int .i64 x3, .int .i64 x4, .int .i64 x5, .bool x6, .slice Ax7 x7.length cx7, .slice Ax8 x8.length cx8, .slice Ax9 x9.length cx9, .slice Ax10 x10.length cx10, .slice Ax11 x11.length cx11, .slice Ax12 x12.length cx12, .slice Ax13 x13.length cx13, .slice Ax14 x14.length cx14, .int .i64 x15] :: R) aO eS ⟨i + 1, bs2, v2, by omega, rfl, fun _ h => h, rfl, by rw [ht]; exact hW.trans h2⟩ (fun w hs => hs.weaken eB (fun p hp => List.mem_cons_of_mem _ (List.mem_append_right _ (hR2 p hp))))
    · rw [List.take_of_length_le hge] at hW
      repeat' (first | (apply aF) | (apply aA) | (apply cG) | (apply aJ; exact rfl) | (apply aH) | (apply aD) | (apply aW) | (apply aS) | (apply aP; exact rfl; ((refine aQ rfl cL rfl ?_)); refine aB ?_) | (apply aU; exact rfl; ((refine bQ rfl rfl (fun h => ?_) (fun h => ?_))) <;> (first | (exfalso; omega) | refine aB ?_)) | (refine aE rfl rfl ?_; ((first | refine aG ?_ | refine cH rfl eR ?_ | refine aC rfl ?_ | refine bS rfl ?_)); refine aB ?_) | (refine cX rfl ?_; refine aB ?_))
      exact fQ (.row v' 5 1 bs'.length (bC bs') :: .blk bw [v'] 90 :: H) (At bx 0 [.int .i64 x0, .int .i64 x1, .int .i64 x2, .int .i64 x3, .int .i64 x4, .int .i64 x5, .bool x6, .slice Ax7 x7.length cx7, .slice Ax8 x8.length cx8, .slice Ax9 x9.length cx9, .slice Ax10 x10.length cx10, .slice Ax11 x11.length cx11, .slice Ax12 x12.length cx12, .slice Ax13 x13.length cx13, .slice Ax14 x14.length cx14, .int .i64 x15] :: R) eS ⟨rfl, bs', v', rfl, hW⟩ (fun w hs => hs.weaken eB hR2)
  rintro jj5 H' R' ⟨hRR, bs6, v6, hHH, h6⟩
  subst hRR hHH
  refine dD (by simp only [eF, List.foldl_cons, List.foldl_nil, List.set_cons_succ, List.set_cons_zero]; rfl) ?_
  have hb6 := dL h6 hb5
  apply aF; apply aA
  repeat' (first | (refine aP rfl ?_; refine aQ (o := 0) (q := 12) rfl aX rfl ?_; refine aB ?_) | (refine aE rfl rfl ?_; ((first | refine aG ?_ | refine aC rfl ?_ | refine bS rfl ?_)); refine aB ?_))
  refine fJ rfl rfl (dH bw x12.length (by simp only [dO]; omega)) (fun _ h => (by cases h)) rfl rfl (dM hb6) (fun bs7 v7 h7 => ?_)
  refine aB ?_
  have hb7 := dL h7 hb6
  apply aH; apply aD
  refine jJ [7, 88, 89, 90, 91, 92, 93, 94, 95, 96, 97, 98, 99, 100, 101, 102, 103, 104, 105, 106, 107, 108] (fun j H' R' => R' = (At bx 0 [.int .i64 x0, .int .i64 x1, .int .i64 x2, .int .i64 x3, .int .i64 x4, .int .i64 x5, .bool x6, .slice Ax7 x7.length cx7, .slice Ax8 x8.length cx8, .slice Ax9 x9.length cx9, .slice Ax10 x10.length cx10, .slice Ax11 x11.length cx11, .slice Ax12 x12.length cx12, .slice Ax13 x13.length cx13, .slice Ax14 x14.length cx14, .int .i64 x15] :: R) ∧ ∃ bs' v', H' = .row v' 5 1 bs'.length (bC bs') :: .blk bw [v'] 90 :: H ∧ Wt bs7 (x12.flatMap Cod.enc) bs') ?_ ?_
  · skip
    repeat' (first | (apply aF) | (apply aA) | (apply aV) | (apply aH) | (apply aD) | (refine aE rfl rfl ?_; ((refine aY ?_)); refine aB ?_))
    have hbl := (dM hb7)
    refine cM [7, 88, 89, 90, 91, 92, 93, 94, 95, 96, 97, 98, 99, 100, 101, 102, 103, 104, 105, 106, 107, 108] (fun m j H2 R2 => ∃ (i : Nat) (bs' : List UInt8) (v' : Value), i + m = x12.length ∧ j 7 = .int .i64 (i : Int) ∧ (∀ p ∈ (At bx 0 [.int .i64 x0, .int .i64 x1, .int .i64 x2, .int .i64 x3, .int .i64 x4, .int .i64 x5, .bool x6, .slice Ax7 x7.length cx7, .slice Ax8 x8.length cx8, .slice Ax9 x9.length cx9, .slice Ax10 x10.length cx10, .slice Ax11 x11.length cx11, .slice Ax12 x12.length cx12, .slice Ax13 x13.length cx13, .slice Ax14 x14.length cx14, .int .i64 x15] :: R), p ∈ R2) ∧ H2 = .row v' 5 1 bs'.length (bC bs') :: .blk bw [v'] 90 :: H ∧ Wt bs7 ((x12.take i).flatMap Cod.enc) bs') x12.length eS ⟨0, bs7, v7, by omega, rfl, fun _ h => h, rfl, Wt.nil bs7⟩ ?_
    rintro m j' H2 R2 ⟨i, bs', v', him, hc, hR2, hH2, hW⟩
    subst hH2
    have hat2 := hR2 _ List.mem_cons_self
    have hm2 := hR2 _ (List.mem_cons_of_mem _ hS5)
    refine dD (by simp only [eF, List.foldl_cons, List.foldl_nil, List.set_cons_succ, List.set_cons_zero, hc]; rfl) ?_
    have hWl := hW.2.1
    have htl := eV (enc := Cod.enc) x12 i
    rcases Nat.lt_or_ge i x12.length with hlt | hge
    · rcases Nat.lt_or_ge 250000 bs'.length with hf | hf
      · have hW := (hW.over (o2 := (x12.drop i).flatMap Cod.enc) hf).eq (gD x12 i)
        repeat' (first | (refine aP rfl ?_; refine aQ (o := 0) (q := 12) rfl aX rfl ?_; refine aB ?_) | (refine dK rfl ?_; refine aT fA ?_; refine kW bw bs' v' hf aO ?_; refine aB ?_) | (apply aF) | (apply aA) | (apply cG) | (apply aJ; exact rfl) | (apply aH) | (apply aD) | (apply aW) | (apply aS) | (apply aU; exact rfl; ((refine bQ rfl rfl (fun h => ?_) (fun h => ?_))) <;> (first | (exfalso; omega) | refine aB ?_)) | (refine aE rfl rfl ?_; ((first | refine aG ?_ | refine bX rfl eR ?_ | refine aC rfl ?_ | refine bS rfl ?_ | refine dJ rfl ?_)); refine aB ?_))
        exact fQ (.row v' 5 1 bs'.length (bC bs') :: .blk bw [v'] 90 :: H) (At bx 0 [.int .i64 x0, .int .i64 x1, .int .i64 x2, .int .i64 x3, .int .i64 x4, .int .i64 x5, .bool x6, .slice Ax7 x7.length cx7, .slice Ax8 x8.length cx8, .slice Ax9 x9.length cx9, .slice Ax10 x10.length cx10, .slice Ax11 x11.length cx11, .slice Ax12 x12.length cx12, .slice Ax13 x13.length cx13, .slice Ax14 x14.length cx14, .int .i64 x15] :: R) eS ⟨rfl, bs', v', rfl, hW⟩ (fun w hs => hs.weaken eB hR2)
      · have ht := jM (enc := Cod.enc) x12 i hlt
        have hle := eV (enc := Cod.enc) x12 (i + 1)
        rw [ht, List.length_append] at hle
        repeat' (first | (refine aP rfl ?_; refine aQ (o := 0) (q := 12) rfl aX rfl ?_; refine aB ?_) | (refine dK rfl ?_; refine aT fA ?_; refine kV bw bs' v' hf ?_; refine aB ?_) | (apply gZ; exact rfl; refine dZ (xs := x12) rfl rfl aX rfl (d := x12[i]) (by simp only [Int.toNat_natCast]; exact List.getElem?_eq_getElem aO) aO (fun b_ o y hy => ?_); refine aB ?_) | (refine aP rfl ?_; refine bD rfl List.mem_cons_self (cU (UnpL.len _ _)) ?_; refine aB ?_) | (apply aF) | (apply aA) | (apply aV) | (apply bF) | (apply aK; exact rfl) | (apply aH) | (apply aD) | (apply aU; exact rfl; ((refine bQ rfl rfl (fun h => ?_) (fun h => ?_))) <;> (first | (exfalso; omega) | refine aB ?_)) | (refine aE rfl rfl ?_; ((first | refine aG ?_ | refine bX rfl eR ?_ | refine aC rfl ?_ | refine bS rfl ?_ | refine dJ rfl ?_)); refine aB ?_))
        refine fJ rfl rfl (rval_w bw x12[i] y hy) (fun p hp => List.mem_cons_of_mem _ (List.mem_append_left _ hp)) rfl rfl aO (fun bs2 v2 h2 => ?_)
        refine aB ?_
        repeat' (first | (apply aA) | (apply aH) | (apply aD) | (apply bU) | (apply aU; exact rfl; ((refine bM rfl rfl aO aO ?_)); refine aB ?_) | (refine aE rfl rfl ?_; ((first | refine aG ?_ | refine aY ?_)); refine aB ?_))
        exact cJ (m - 1) (.row v2 5 1 bs2.length (bC bs2) :: .blk bw [v2] 90 :: H) (At bx 0 [.int .i64 x0, .int .i64 x1, .int .i64 x2, .int .i64 x3, .int .i64 x4, .int .i64 x5, .bool x6, .slice Ax7 x7.length cx7, .slice Ax8 x8.length cx8, .slice Ax9 x9.length cx9, .slice Ax10 x10.length cx10, .slice Ax11 x11.length cx11, .slice Ax12 x12.length cx12, .slice Ax13 x13.length cx13, .slice Ax14 x14.length cx14, .int .i64 x15] :: R) aO eS ⟨i + 1, bs2, v2, by omega, rfl, fun _ h => h, rfl, by rw [ht]; exact hW.trans h2⟩ (fun w hs => hs.weaken eB (fun p hp => List.mem_cons_of_mem _ (List.mem_append_right _ (hR2 p hp))))
    · rw [List.take_of_length_le hge] at hW
      repeat' (first | (refine aP rfl ?_; refine aQ (o := 0) (q := 12) rfl aX rfl ?_; refine aB ?_) | (apply aF) | (apply aA) | (apply cG) | (apply aJ; exact rfl) | (apply aH) | (apply aD) | (apply aW) | (apply aS) | (apply aU; exact rfl; ((refine bQ rfl rfl (fun h => ?_) (fun h => ?_))) <;> (first | (exfalso; omega) | refine aB ?_)) | (refine aE rfl rfl ?_; ((first | refine aG ?_ | refine cH rfl eR ?_ | refine aC rfl ?_ | refine bS rfl ?_)); refine aB ?_) | (refine cX rfl ?_; refine aB ?_))
      exact fQ (.row v' 5 1 bs'.length (bC bs') :: .blk bw [v'] 90 :: H) (At bx 0 [.int .i64 x0, .int .i64 x1, .int .i64 x2, .int .i64 x3, .int .i64 x4, .int .i64 x5, .bool x6, .slice Ax7 x7.length cx7, .slice Ax8 x8.length cx8, .slice Ax9 x9.length cx9, .slice Ax10 x10.length cx10, .slice Ax11 x11.length cx11, .slice Ax12 x12.length cx12, .slice Ax13 x13.length cx13, .slice Ax14 x14.length cx14, .int .i64 x15] :: R) eS ⟨rfl, bs', v', rfl, hW⟩ (fun w hs => hs.weaken eB hR2)
  rintro jj7 H' R' ⟨hRR, bs8, v8, hHH, h8⟩
  subst hRR hHH
  refine dD (by simp only [eF, List.foldl_cons, List.foldl_nil, List.set_cons_succ, List.set_cons_zero]; rfl) ?_
  have hb8 := dL h8 hb7
  apply aF; apply aA
  repeat' (first | (apply aP; exact rfl; ((refine aQ rfl cL rfl ?_)); refine aB ?_) | (refine aE rfl rfl ?_; ((first | refine aG ?_ | refine aC rfl ?_ | refine bS rfl ?_)); refine aB ?_))
  refine fJ rfl rfl (dH bw x13.length (by simp only [dO]; omega)) (fun _ h => (by cases h)) rfl rfl (dM hb8) (fun bs9 v9 h9 => ?_)
  refine aB ?_
  have hb9 := dL h9 hb8
  apply aH; apply aD
  refine jJ [8, 114, 115, 116, 117, 118, 119, 120, 121, 122, 123, 124, 125, 126, 127, 128, 129, 130, 131, 132, 133, 134, 135, 136, 137, 138, 139, 140, 141] (fun j H' R' => R' = (At bx 0 [.int .i64 x0, .int .i64 x1, .int .i64 x2, .int .i64 x3, .int .i64 x4, .int .i64 x5, .bool x6, .slice Ax7 x7.length cx7, .slice Ax8 x8.length cx8, .slice Ax9 x9.length cx9, .slice Ax10 x10.length cx10, .slice Ax11 x11.length cx11, .slice Ax12 x12.length cx12, .slice Ax13 x13.length cx13, .slice Ax14 x14.length cx14, .int .i64 x15] :: R) ∧ ∃ bs' v', H' = .row v' 5 1 bs'.length (bC bs') :: .blk bw [v'] 90 :: H ∧ Wt bs9 (x13.flatMap Cod.enc) bs') ?_ ?_
  · skip
    repeat' (first | (apply aF) | (apply aA) | (apply aV) | (apply aH) | (apply aD) | (refine aE rfl rfl ?_; ((refine aY ?_)); refine aB ?_))
    have hbl := (dM hb9)
    refine cM [8, 114, 115, 116, 117, 118, 119, 120, 121, 122, 123, 124, 125, 126, 127, 128, 129, 130, 131, 132, 133, 134, 135, 136, 137, 138, 139, 140, 141] (fun m j H2 R2 => ∃ (i : Nat) (bs' : List UInt8) (v' : Value), i + m = x13.length ∧ j 8 = .int .i64 (i : Int) ∧ (∀ p ∈ (At bx 0 [.int .i64 x0, .int .i64 x1, .int .i64 x2, .int .i64 x3, .int .i64 x4, .int .i64 x5, .bool x6, .slice Ax7 x7.length cx7, .slice Ax8 x8.length cx8, .slice Ax9 x9.length cx9, .slice Ax10 x10.length cx10, .slice Ax11 x11.length cx11, .slice Ax12 x12.length cx12, .slice Ax13 x13.length cx13, .slice Ax14 x14.length cx14, .int .i64 x15] :: R), p ∈ R2) ∧ H2 = .row v' 5 1 bs'.length (bC bs') :: .blk bw [v'] 90 :: H ∧ Wt bs9 ((x13.take i).flatMap Cod.enc) bs') x13.length eS ⟨0, bs9, v9, by omega, rfl, fun _ h => h, rfl, Wt.nil bs9⟩ ?_
    rintro m j' H2 R2 ⟨i, bs', v', him, hc, hR2, hH2, hW⟩
    subst hH2
    have hat2 := hR2 _ List.mem_cons_self
    have hm2 := hR2 _ (List.mem_cons_of_mem _ hS6)
    refine dD (by simp only [eF, List.foldl_cons, List.foldl_nil, List.set_cons_succ, List.set_cons_zero, hc]; rfl) ?_
    have hWl := hW.2.1
    have htl := eV (enc := Cod.enc) x13 i
    rcases Nat.lt_or_ge i x13.length with hlt | hge
    · rcases Nat.lt_or_ge 250000 bs'.length with hf | hf
      · have hW := (hW.over (o2 := (x13.drop i).flatMap Cod.enc) hf).eq (gD x13 i)
        repeat' (first | (refine dK rfl ?_; refine aT fA ?_; refine kW bw bs' v' hf aO ?_; refine aB ?_) | (apply aF) | (apply aA) | (apply cG) | (apply aJ; exact rfl) | (apply aH) | (apply aD) | (apply aW) | (apply aS) | (apply aP; exact rfl; ((refine aQ rfl cL rfl ?_)); refine aB ?_) | (apply aU; exact rfl; ((refine bQ rfl rfl (fun h => ?_) (fun h => ?_))) <;> (first | (exfalso; omega) | refine aB ?_)) | (refine aE rfl rfl ?_; ((first | refine aG ?_ | refine bX rfl eR ?_ | refine aC rfl ?_ | refine bS rfl ?_ | refine dJ rfl ?_)); refine aB ?_))
        exact fQ (.row v' 5 1 bs'.length (bC bs') :: .blk bw [v'] 90 :: H) (At bx 0 [.int .i64 x0, .int .i64 x1, .int .i64 x2, .int .i64 x3, .int .i64 x4, .int .i64 x5, .bool x6, .slice Ax7 x7.length cx7, .slice Ax8 x8.length cx8, .slice Ax9 x9.length cx9, .slice Ax10 x10.length cx10, .slice Ax11 x11.length cx11, .slice Ax12 x12.length cx12, .slice Ax13 x13.length cx13, .slice Ax14 x14.length cx14, .int .i64 x15] :: R) eS ⟨rfl, bs', v', rfl, hW⟩ (fun w hs => hs.weaken eB hR2)
      · have ht := jM (enc := Cod.enc) x13 i hlt
        obtain ⟨⟨t0, lv, ⟨tn, tx⟩, bo, ⟨tk, ti, kn, kx⟩⟩, hte⟩ : ∃ tt, x13[i] = tt := ⟨_, rfl⟩
        have htt : x13[((i : Nat) : Int).toNat]? = some (t0, lv, .mk tn tx, bo, .mk tk ti kn kx) := by rw [Int.toNat_natCast, List.getElem?_eq_getElem hlt, hte]
        have henc : dA t0 ++ Cod.enc (α := mU) (lv, .mk tn tx, bo, .mk tk ti kn kx) = Cod.enc (α := nJ) x13[i] := by rw [hte]; rfl
        have hel : (dA t0).length + (Cod.enc (α := mU) (lv, .mk tn tx, bo, .mk tk ti kn kx)).length = (Cod.enc (α := nJ) x13[i]).length := by rw [← henc, List.length_append]
        have hle := eV (enc := Cod.enc) x13 (i + 1)
        rw [ht, List.length_append] at hle
        repeat' (first | (refine dK rfl ?_; refine aT fA ?_; refine kV bw bs' v' hf ?_; refine aB ?_) | (refine gZ rfl ?_; refine dZ (xs := x13) rfl rfl aX rfl (d := (t0, lv, .mk tn tx, bo, .mk tk ti kn kx)) htt aO (fun b_ o y hy => ?_); obtain ⟨u0, u1, ⟨A1, c1⟩, u3, ⟨A2, c2⟩⟩ := y; refine aB ?_) | (apply aF) | (apply aA) | (apply aV) | (apply bF) | (apply aK; exact rfl) | (apply aH) | (apply aD) | (apply aP; exact rfl; ((refine aQ rfl cL rfl ?_)); refine aB ?_) | (apply aU; exact rfl; ((refine bQ rfl rfl (fun h => ?_) (fun h => ?_))) <;> (first | (exfalso; omega) | refine aB ?_)) | (refine aE rfl rfl ?_; ((first | refine aG ?_ | refine bX rfl eR ?_ | refine aC rfl ?_ | refine bS rfl ?_ | refine dJ rfl ?_)); refine aB ?_))
        refine fJ rfl rfl (dH bw t0 hy.1) (fun _ h => (by cases h)) rfl rfl aO (fun bs32 v32 h32 => ?_)
        refine aB ?_
        have h32l := h32.2.1
        refine eU (.row v32 5 1 bs32.length (bC bs32) :: .blk bw [v32] 90 :: H) R2 (fun w hs => hs.weaken (List.Sublist.refl _) (fun p hp => List.Mem.tail _ (List.Mem.tail _ (List.Mem.tail _ hp)))) ?_
        repeat' (first | (refine gZ rfl ?_; refine dZ (xs := x13) rfl rfl aX rfl (d := (t0, lv, .mk tn tx, bo, .mk tk ti kn kx)) htt aO (fun b_ o y hy => ?_); obtain ⟨u0, u1, ⟨A1, c1⟩, u3, ⟨A2, c2⟩⟩ := y; refine aB ?_) | (apply aA) | (apply aH) | (apply aD) | (apply aP; exact rfl; ((refine aQ rfl cL rfl ?_)); refine aB ?_) | (refine aE rfl rfl ?_; ((first | refine aG ?_ | refine aC rfl ?_)); refine aB ?_))
        refine fJ rfl rfl (rval_w bw (lv, .mk tn tx, bo, .mk tk ti kn kx) ((), (A1, c1), (), (A2, c2)) hy.2) (fun p hp => List.mem_cons_of_mem _ (List.mem_append_left _ hp)) rfl rfl aO (fun bs33 v33 h33 => ?_)
        refine aB ?_
        refine eU (.row v33 5 1 bs33.length (bC bs33) :: .blk bw [v33] 90 :: H) R2 (fun w hs => hs.weaken (List.Sublist.refl _) (fun p hp => List.Mem.tail _ (List.Mem.tail _ (List.Mem.tail _ hp)))) ?_
        repeat' (first | (apply aA) | (apply aH) | (apply aD) | (apply bU) | (apply aU; exact rfl; ((refine bM rfl rfl aO aO ?_)); refine aB ?_) | (refine aE rfl rfl ?_; ((first | refine aG ?_ | refine aY ?_)); refine aB ?_))
        exact cJ (m - 1) (.row v33 5 1 bs33.length (bC bs33) :: .blk bw [v33] 90 :: H) (At bx 0 [.int .i64 x0, .int .i64 x1, .int .i64 x2, .int .i64 x3, .int .i64 x4, .int .i64 x5, .bool x6, .slice Ax7 x7.length cx7, .slice Ax8 x8.length cx8, .slice Ax9 x9.length cx9, .slice Ax10 x10.length cx10, .slice Ax11 x11.length cx11, .slice Ax12 x12.length cx12, .slice Ax13 x13.length cx13, .slice Ax14 x14.length cx14, .int .i64 x15] :: R) aO eS ⟨i + 1, bs33, v33, by omega, rfl, fun _ h => h, rfl, by rw [ht]; exact hW.trans ((h32.trans h33).eq henc)⟩ (fun w hs => hs.weaken eB hR2)
    · rw [List.take_of_length_le hge] at hW
      repeat' (first | (apply aF) | (apply aA) | (apply cG) | (apply aJ; exact rfl) | (apply aH) | (apply aD) | (apply aW) | (apply aS) | (apply aP; exact rfl; ((refine aQ rfl cL rfl ?_)); refine aB ?_) | (apply aU; exact rfl; ((refine bQ rfl rfl (fun h => ?_) (fun h => ?_))) <;> (first | (exfalso; omega) | refine aB ?_)) | (refine aE rfl rfl ?_; ((first | refine aG ?_ | refine cH rfl eR ?_ | refine aC rfl ?_ | refine bS rfl ?_)); refine aB ?_) | (refine cX rfl ?_; refine aB ?_))
      exact fQ (.row v' 5 1 bs'.length (bC bs') :: .blk bw [v'] 90 :: H) (At bx 0 [.int .i64 x0, .int .i64 x1, .int .i64 x2, .int .i64 x3, .int .i64 x4, .int .i64 x5, .bool x6, .slice Ax7 x7.length cx7, .slice Ax8 x8.length cx8, .slice Ax9 x9.length cx9, .slice Ax10 x10.length cx10, .slice Ax11 x11.length cx11, .slice Ax12 x12.length cx12, .slice Ax13 x13.length cx13, .slice Ax14 x14.length cx14, .int .i64 x15] :: R) eS ⟨rfl, bs', v', rfl, hW⟩ (fun w hs => hs.weaken eB hR2)
  rintro jj9 H' R' ⟨hRR, bs10, v10, hHH, h10⟩
  subst hRR hHH
  refine dD (by simp only [eF, List.foldl_cons, List.foldl_nil, List.set_cons_succ, List.set_cons_zero]; rfl) ?_
  have hb10 := dL h10 hb9
  repeat' (first | (apply aF) | (apply aA) | (apply aP; exact rfl; ((refine aQ rfl cL rfl ?_)); refine aB ?_) | (refine aE rfl rfl ?_; ((first | refine aG ?_ | refine aC rfl ?_ | refine bS rfl ?_)); refine aB ?_))
  refine fJ rfl rfl (dH bw x14.length (by simp only [dO]; omega)) (fun _ h => (by cases h)) rfl rfl (dM hb10) (fun bs11 v11 h11 => ?_)
  refine aB ?_
  have hb11 := dL h11 hb10
  repeat' (first | (apply aF) | (apply aA) | (apply aV) | (apply aH) | (apply aD) | (refine aE rfl rfl ?_; ((refine aY ?_)); refine aB ?_))
  have hbl := hb11
  refine cM [9, 147, 148, 149, 150, 151, 152, 153, 154, 155, 156, 157, 158, 159, 160, 161, 162, 163, 164, 165] (fun m j H2 R2 => ∃ (i : Nat) (bs' : List UInt8) (v' : Value), i + m = x14.length ∧ j 9 = .int .i64 (i : Int) ∧ (∀ p ∈ (At bx 0 [.int .i64 x0, .int .i64 x1, .int .i64 x2, .int .i64 x3, .int .i64 x4, .int .i64 x5, .bool x6, .slice Ax7 x7.length cx7, .slice Ax8 x8.length cx8, .slice Ax9 x9.length cx9, .slice Ax10 x10.length cx10, .slice Ax11 x11.length cx11, .slice Ax12 x12.length cx12, .slice Ax13 x13.length cx13, .slice Ax14 x14.length cx14, .int .i64 x15] :: R), p ∈ R2) ∧ H2 = .row v' 5 1 bs'.length (bC bs') :: .blk bw [v'] 90 :: H ∧ Wt bs11 ((x14.take i).flatMap Cod.enc) bs') x14.length eS ⟨0, bs11, v11, by omega, rfl, fun _ h => h, rfl, Wt.nil bs11⟩ ?_
  rintro m j' H2 R2 ⟨i, bs', v', him, hc, hR2, hH2, hW⟩
  subst hH2
  have hat2 := hR2 _ List.mem_cons_self
  have hm2 := hR2 _ (List.mem_cons_of_mem _ hS7)
  refine dD (by simp only [eF, List.foldl_cons, List.foldl_nil, List.set_cons_succ, List.set_cons_zero, hc]; rfl) ?_
  have hWl := hW.2.1
  have htl := eV (enc := Cod.enc) x14 i
  rcases Nat.lt_or_ge i x14.length with hlt | hge
  · rcases Nat.lt_or_ge 250000 bs'.length with hf | hf
    · have hW := (hW.over (o2 := (x14.drop i).flatMap Cod.enc) hf).eq (gD x14 i)
      repeat' (first | (refine dK rfl ?_; refine aT fA ?_; refine kW bw bs' v' hf aO ?_; refine aB ?_) | (apply aF) | (apply aA) | (apply cG) | (apply aJ; exact rfl) | (apply aH) | (apply aD) | (apply aW) | (apply aS) | (apply aP; exact rfl; ((refine aQ rfl cL rfl ?_)); refine aB ?_) | (apply aU; exact rfl; ((refine bQ rfl rfl (fun h => ?_) (fun h => ?_))) <;> (first | (exfalso; omega) | refine aB ?_)) | (refine aE rfl rfl ?_; ((first | refine aG ?_ | refine bX rfl eR ?_ | refine aC rfl ?_ | refine bS rfl ?_ | refine dJ rfl ?_)); refine aB ?_))
      exact aZ (.inr rfl) (gQ rfl) (cA (.row v' 5 1 bs'.length (bC bs') :: .blk bw [v'] 90 :: H) R (fun w hs => hs.weaken eB (fun p hp => hR2 p (List.mem_cons_of_mem _ hp))) (hk bs' v' (h1.trans (h2.trans (h3.trans (h4.trans (h5.trans (h6.trans (h7.trans (h8.trans (h9.trans (h10.trans (h11.trans hW)))))))))))))
    · have ht := jM (enc := Cod.enc) x14 i hlt
      have hle := eV (enc := Cod.enc) x14 (i + 1)
      rw [ht, List.length_append] at hle
      repeat' (first | (refine dK rfl ?_; refine aT fA ?_; refine kV bw bs' v' hf ?_; refine aB ?_) | (apply gZ; exact rfl; refine dZ (xs := x14) rfl rfl aX rfl (d := x14[i]) (by simp only [Int.toNat_natCast]; exact List.getElem?_eq_getElem aO) aO (fun b_ o y hy => ?_); refine aB ?_) | (refine aP rfl ?_; refine bD rfl List.mem_cons_self (cU (UnpL.len _ _)) ?_; refine aB ?_) | (apply aF) | (apply aA) | (apply aV) | (apply bF) | (apply aK; exact rfl) | (apply aH) | (apply aD) | (apply aP; exact rfl; ((refine aQ rfl cL rfl ?_)); refine aB ?_) | (apply aU; exact rfl; ((refine bQ rfl rfl (fun h => ?_) (fun h => ?_))) <;> (first | (exfalso; omega) | refine aB ?_)) | (refine aE rfl rfl ?_; ((first | refine aG ?_ | refine bX rfl eR ?_ | refine aC rfl ?_ | refine bS rfl ?_ | refine dJ rfl ?_)); refine aB ?_))
      refine fJ rfl rfl (p6 bw x14[i] y hy) (fun p hp => List.mem_cons_of_mem _ (List.mem_append_left _ hp)) rfl rfl aO (fun bs2 v2 h2 => ?_)
      refine aB ?_
      repeat' (first | (apply aA) | (apply aH) | (apply aD) | (apply bU) | (apply aU; exact rfl; ((refine bM rfl rfl aO aO ?_)); refine aB ?_) | (refine aE rfl rfl ?_; ((first | refine aG ?_ | refine aY ?_)); refine aB ?_))
      exact cJ (m - 1) (.row v2 5 1 bs2.length (bC bs2) :: .blk bw [v2] 90 :: H) (At bx 0 [.int .i64 x0, .int .i64 x1, .int .i64 x2, .int .i64 x3, .int .i64 x4, .int .i64 x5, .bool x6, .slice Ax7 x7.length cx7, .slice Ax8 x8.length cx8, .slice Ax9 x9.length cx9, .slice Ax10 x10.length cx10, .slice Ax11 x11.length cx11, .slice Ax12 x12.length cx12, .slice Ax13 x13.length cx13, .slice Ax14 x14.length cx14, .int .i64 x15] :: R) aO eS ⟨i + 1, bs2, v2, by omega, rfl, fun _ h => h, rfl, by rw [ht]; exact hW.trans h2⟩ (fun w hs => hs.weaken eB (fun p hp => List.mem_cons_of_mem _ (List.mem_append_right _ (hR2 p hp))))
  · rw [List.take_of_length_le hge] at hW
    repeat' (first | (apply aF) | (apply aA) | (apply cG) | (apply aJ; exact rfl) | (apply aH) | (apply aD) | (apply aW) | (apply aS) | (apply aP; exact rfl; ((refine aQ rfl cL rfl ?_)); refine aB ?_) | (apply aU; exact rfl; ((refine bQ rfl rfl (fun h => ?_) (fun h => ?_))) <;> (first | (exfalso; omega) | refine aB ?_)) | (refine aE rfl rfl ?_; ((first | refine aG ?_ | refine cH rfl eR ?_ | refine aC rfl ?_ | refine bS rfl ?_)); refine aB ?_) | (refine cX rfl ?_; refine aB ?_))
    exact aZ (.inr rfl) (gQ rfl) (cA (.row v' 5 1 bs'.length (bC bs') :: .blk bw [v'] 90 :: H) R (fun w hs => hs.weaken eB (fun p hp => hR2 p (List.mem_cons_of_mem _ hp))) (hk bs' v' (h1.trans (h2.trans (h3.trans (h4.trans (h5.trans (h6.trans (h7.trans (h8.trans (h9.trans (h10.trans (h11.trans hW)))))))))))))
end Go.Proofs.YtggdljhmbckpmaaGreat
