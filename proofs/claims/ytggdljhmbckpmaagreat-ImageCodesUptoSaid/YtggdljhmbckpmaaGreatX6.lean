/- The reference's writer: the lists of a state: walk. -/
import Derived.Test.YtggdljhmbckpmaaGreatX5
set_option linter.unusedVariables false
set_option linter.unusedSimpArgs false
namespace Go.Proofs.YtggdljhmbckpmaaGreat
open Go Go.RowKit
set_option maxRecDepth 100000
set_option maxHeartbeats 3200000

theorem e7 {w0 : World} (bw : Nat) (x0 : Int) (hx0 : dD x0) (x1 : Int) (hx1 : dD x1) (x2 : Int) (hx2 : dD x2) (x3 : Int) (hx3 : dD x3) (x4 : Int) (hx4 : dD x4) (x5 : Int) (hx5 : dD x5) (x6 : Bool) (Ax7 : Option Addr) (cx7 : Nat) (x7 : List Int) (hx7 : x7.length ≤ 9223372036854775807) (Ax8 : Option Addr) (cx8 : Nat) (x8 : List Int) (hx8 : x8.length ≤ 9223372036854775807) (Ax9 : Option Addr) (cx9 : Nat) (x9 : List oK) (hx9 : x9.length ≤ 9223372036854775807) (Ax10 : Option Addr) (cx10 : Nat) (x10 : List oI) (hx10 : x10.length ≤ 9223372036854775807) (Ax11 : Option Addr) (cx11 : Nat) (x11 : List nZ) (hx11 : x11.length ≤ 9223372036854775807) (Ax12 : Option Addr) (cx12 : Nat) (x12 : List kZ) (hx12 : x12.length ≤ 9223372036854775807) (Ax13 : Option Addr) (cx13 : Nat) (x13 : List lU) (hx13 : x13.length ≤ 9223372036854775807) (Ax14 : Option Addr) (cx14 : Nat) (x14 : List nT) (hx14 : x14.length ≤ 9223372036854775807) (x15 : Int) (hx15 : dD x15) : Wf Tryz.prog w0 [Sl (.slice Ax7 x7.length cx7) x7, Sl (.slice Ax8 x8.length cx8) x8, Sl (.slice Ax9 x9.length cx9) x9, Sl (.slice Ax10 x10.length cx10) x10, Sl (.slice Ax11 x11.length cx11) x11, Sl (.slice Ax12 x12.length cx12) x12, Sl (.slice Ax13 x13.length cx13) x13, Sl (.slice Ax14 x14.length cx14) x14] 34 [.pointer (some ⟨bw, 0, none⟩), .agg #[.int .i64 x0, .int .i64 x1, .int .i64 x2, .int .i64 x3, .int .i64 x4, .int .i64 x5, .bool x6, .slice Ax7 x7.length cx7, .slice Ax8 x8.length cx8, .slice Ax9 x9.length cx9, .slice Ax10 x10.length cx10, .slice Ax11 x11.length cx11, .slice Ax12 x12.length cx12, .slice Ax13 x13.length cx13, .slice Ax14 x14.length cx14, .int .i64 x15]] bw (cL x9.length ++ ((x9.flatMap Cod.enc) ++ (cL x10.length ++ ((x10.flatMap Cod.enc) ++ (cL x11.length ++ ((x11.flatMap Cod.enc) ++ (cL x12.length ++ ((x12.flatMap Cod.enc) ++ (cL x13.length ++ ((x13.flatMap Cod.enc) ++ (cL x14.length ++ ((x14.flatMap Cod.enc))))))))))))) := by
  intro H R K bs v hsub hb hk
  have hb0 := hb
  clear hb
  have hS0 : Sl (.slice Ax7 x7.length cx7) x7 ∈ R := hsub _ (by simp)
  have hS1 : Sl (.slice Ax8 x8.length cx8) x8 ∈ R := hsub _ (by simp)
  have hS2 : Sl (.slice Ax9 x9.length cx9) x9 ∈ R := hsub _ (by simp)
  have hS3 : Sl (.slice Ax10 x10.length cx10) x10 ∈ R := hsub _ (by simp)
  have hS4 : Sl (.slice Ax11 x11.length cx11) x11 ∈ R := hsub _ (by simp)
  have hS5 : Sl (.slice Ax12 x12.length cx12) x12 ∈ R := hsub _ (by simp)
  have hS6 : Sl (.slice Ax13 x13.length cx13) x13 ∈ R := hsub _ (by simp)
  have hS7 : Sl (.slice Ax14 x14.length cx14) x14 ∈ R := hsub _ (by simp)
  clear hsub
  refine bX Tryz.func34 rfl Tryz.ntmps34 eZ ?_
  apply aF; apply aA
  repeat' ((refine bG rfl rfl ?_; ((refine eB cW (fun b => ?_))); refine aB ?_))
  revert b
  intro bx
  apply aG; apply aD
  refine eS 0 rfl ?_
  refine iI rZ ?_
  apply aF; apply aA
  repeat' (first | (apply aP; exact rfl; ((refine aQ rfl cJ rfl ?_)); refine aB ?_) | (refine aE rfl rfl ?_; ((first | refine aH ?_ | refine aC rfl ?_ | refine bQ rfl ?_)); refine aB ?_))
  refine eK rfl rfl (cX bw x9.length (by simp only [dD]; omega)) (fun _ h => (by cases h)) rfl rfl (dA hb0) (fun bs1 v1 h1 => ?_)
  refine aB ?_
  have hb1 := dB h1 hb0
  apply aG; apply aD
  refine iY [4, 15, 16, 17, 18, 19, 20, 21, 22, 23, 24, 25, 26, 27, 28, 29, 30, 31, 32, 33] (fun j H' R' => R' = (At bx 0 [.int .i64 x0, .int .i64 x1, .int .i64 x2, .int .i64 x3, .int .i64 x4, .int .i64 x5, .bool x6, .slice Ax7 x7.length cx7, .slice Ax8 x8.length cx8, .slice Ax9 x9.length cx9, .slice Ax10 x10.length cx10, .slice Ax11 x11.length cx11, .slice Ax12 x12.length cx12, .slice Ax13 x13.length cx13, .slice Ax14 x14.length cx14, .int .i64 x15] :: R) ∧ ∃ bs' v', H' = .row v' 5 1 bs'.length (bA bs') :: .blk bw [v'] 90 :: H ∧ Wt bs1 (x9.flatMap Cod.enc) bs') ?_ ?_
  · skip
    repeat' (first | (apply aF) | (apply aA) | (apply aT) | (apply aG) | (apply aD) | (refine aE rfl rfl ?_; ((refine aX ?_)); refine aB ?_))
    have hbl := (dA hb1)
    refine cK [4, 15, 16, 17, 18, 19, 20, 21, 22, 23, 24, 25, 26, 27, 28, 29, 30, 31, 32, 33] (fun m j H2 R2 => ∃ (i : Nat) (bs' : List UInt8) (v' : Value), i + m = x9.length ∧ j 4 = .int .i64 (i : Int) ∧ (∀ p ∈ (At bx 0 [.int .i64 x0, .int .i64 x1, .int .i64 x2, .int .i64 x3, .int .i64 x4, .int .i64 x5, .bool x6, .slice Ax7 x7.length cx7, .slice Ax8 x8.length cx8, .slice Ax9 x9.length cx9, .slice Ax10 x10.length cx10, .slice Ax11 x11.length cx11, .slice Ax12 x12.length cx12, .slice Ax13 x13.length cx13, .slice Ax14 x14.length cx14, .int .i64 x15] :: R), p ∈ R2) ∧ H2 = .row v' 5 1 bs'.length (bA bs') :: .blk bw [v'] 90 :: H ∧ Wt bs1 ((x9.take i).flatMap Cod.enc) bs') x9.length eE ⟨0, bs1, v1, by omega, rfl, fun _ h => h, rfl, Wt.nil bs1⟩ ?_
    rintro m j' H2 R2 ⟨i, bs', v', him, hc, hR2, hH2, hW⟩
    subst hH2
    have hat2 := hR2 _ List.mem_cons_self
    have hm2 := hR2 _ (List.mem_cons_of_mem _ hS2)
    refine cQ (by simp only [dX, List.foldl_cons, List.foldl_nil, List.set_cons_succ, List.set_cons_zero, hc]; rfl) ?_
    have hWl := hW.2.1
    have htl := eG (enc := Cod.enc) x9 i
    rcases Nat.lt_or_ge i x9.length with hlt | hge
    · rcases Nat.lt_or_ge 250000 bs'.length with hf | hf
      · have hW := (hW.over (o2 := (x9.drop i).flatMap Cod.enc) hf).eq (fG x9 i)
        repeat' (first | (refine dS rfl ?_; refine aY fA ?_; refine jP bw bs' v' hf (by omega) ?_; refine aB ?_) | (apply aF) | (apply aA) | (apply bV) | (apply aI; exact rfl) | (apply aG) | (apply aD) | (apply aS) | (apply aR) | (apply aP; exact rfl; ((refine aQ rfl cJ rfl ?_)); refine aB ?_) | (apply aU; exact rfl; ((refine bM rfl rfl (fun h => ?_) (fun h => ?_))) <;> (first | (exfalso; omega) | refine aB ?_)) | (refine aE rfl rfl ?_; ((first | refine aH ?_ | refine bT rfl eJ ?_ | refine aC rfl ?_ | refine bQ rfl ?_ | refine dE rfl ?_)); refine aB ?_))
        exact fI (.row v' 5 1 bs'.length (bA bs') :: .blk bw [v'] 90 :: H) (At bx 0 [.int .i64 x0, .int .i64 x1, .int .i64 x2, .int .i64 x3, .int .i64 x4, .int .i64 x5, .bool x6, .slice Ax7 x7.length cx7, .slice Ax8 x8.length cx8, .slice Ax9 x9.length cx9, .slice Ax10 x10.length cx10, .slice Ax11 x11.length cx11, .slice Ax12 x12.length cx12, .slice Ax13 x13.length cx13, .slice Ax14 x14.length cx14, .int .i64 x15] :: R) eE ⟨rfl, bs', v', rfl, hW⟩ (fun w hs => hs.weaken bU hR2)
      · have ht := iH (enc := Cod.enc) x9 i hlt
        have hle := eG (enc := Cod.enc) x9 (i + 1)
        rw [ht, List.length_append] at hle
        repeat' (first | (refine dS rfl ?_; refine aY fA ?_; refine jQ bw bs' v' hf ?_; refine aB ?_) | (apply gL; exact rfl; refine dL (xs := x9) rfl rfl aV rfl (d := x9[i]) (by simp only [Int.toNat_natCast]; exact List.getElem?_eq_getElem (by omega)) (by omega) (fun b_ o y hy => ?_); refine aB ?_) | (refine aP rfl ?_; refine aZ rfl List.mem_cons_self (cN (UnpL.len _ _)) ?_; refine aB ?_) | (apply aF) | (apply aA) | (apply aT) | (apply bE) | (apply aK; exact rfl) | (apply aG) | (apply aD) | (apply aP; exact rfl; ((refine aQ rfl cJ rfl ?_)); refine aB ?_) | (apply aU; exact rfl; ((refine bM rfl rfl (fun h => ?_) (fun h => ?_))) <;> (first | (exfalso; omega) | refine aB ?_)) | (refine aE rfl rfl ?_; ((first | refine aH ?_ | refine bT rfl eJ ?_ | refine aC rfl ?_ | refine bQ rfl ?_ | refine dE rfl ?_)); refine aB ?_))
        refine eK rfl rfl (p9 bw x9[i] y hy) (fun p hp => List.mem_cons_of_mem _ (List.mem_append_left _ hp)) rfl rfl (by omega) (fun bs2 v2 h2 => ?_)
        refine aB ?_
        repeat' (first | (apply aA) | (apply aG) | (apply aD) | (apply bP) | (apply aU; exact rfl; ((refine bI rfl rfl (by omega) (by omega) ?_)); refine aB ?_) | (refine aE rfl rfl ?_; ((first | refine aH ?_ | refine aX ?_)); refine aB ?_))
        exact cE (m - 1) (.row v2 5 1 bs2.length (bA bs2) :: .blk bw [v2] 90 :: H) (At bx 0 [.int .i64 x0, .int .i64 x1, .int .i64 x2, .int .i64 x3, .int .i64 x4, .int .i64 x5, .bool x6, .slice Ax7 x7.length cx7, .slice Ax8 x8.length cx8, .slice Ax9 x9.length cx9, .slice Ax10 x10.length cx10, .slice Ax11 x11.length cx11, .slice Ax12 x12.length cx12, .slice Ax13 x13.length cx13, .slice Ax14 x14.length cx14, .int .i64 x15] :: R) (by omega) eE ⟨i + 1, bs2, v2, by omega, rfl, fun _ h => h, rfl, by rw [ht]; exact hW.trans h2⟩ (fun w hs => hs.weaken bU (fun p hp => List.mem_cons_of_mem _ (List.mem_append_right _ (hR2 p hp))))
    · rw [List.take_of_length_le hge] at hW
      repeat' (first | (apply aF) | (apply aA) | (apply bV) | (apply aI; exact rfl) | (apply aG) | (apply aD) | (apply aS) | (apply aR) | (apply aP; exact rfl; ((refine aQ rfl cJ rfl ?_)); refine aB ?_) | (apply aU; exact rfl; ((refine bM rfl rfl (fun h => ?_) (fun h => ?_))) <;> (first | (exfalso; omega) | refine aB ?_)) | (refine aE rfl rfl ?_; ((first | refine aH ?_ | refine cI rfl eJ ?_ | refine aC rfl ?_ | refine bQ rfl ?_)); refine aB ?_) | (refine cR rfl ?_; refine aB ?_))
      exact fI (.row v' 5 1 bs'.length (bA bs') :: .blk bw [v'] 90 :: H) (At bx 0 [.int .i64 x0, .int .i64 x1, .int .i64 x2, .int .i64 x3, .int .i64 x4, .int .i64 x5, .bool x6, .slice Ax7 x7.length cx7, .slice Ax8 x8.length cx8, .slice Ax9 x9.length cx9, .slice Ax10 x10.length cx10, .slice Ax11 x11.length cx11, .slice Ax12 x12.length cx12, .slice Ax13 x13.length cx13, .slice Ax14 x14.length cx14, .int .i64 x15] :: R) eE ⟨rfl, bs', v', rfl, hW⟩ (fun w hs => hs.weaken bU hR2)
  rintro jj1 H' R' ⟨hRR, bs2, v2, hHH, h2⟩
  subst hRR hHH
  refine cQ (by simp only [dX, List.foldl_cons, List.foldl_nil, List.set_cons_succ, List.set_cons_zero]; rfl) ?_
  have hb2 := dB h2 hb1
  apply aF; apply aA
  repeat' (first | (apply aP; exact rfl; ((refine aQ rfl cJ rfl ?_)); refine aB ?_) | (refine aE rfl rfl ?_; ((first | refine aH ?_ | refine aC rfl ?_ | refine bQ rfl ?_)); refine aB ?_))
  refine eK rfl rfl (cX bw x10.length (by simp only [dD]; omega)) (fun _ h => (by cases h)) rfl rfl (dA hb2) (fun bs3 v3 h3 => ?_)
  refine aB ?_
  have hb3 := dB h3 hb2
  apply aG; apply aD
  refine iY [5, 39, 40, 41, 42, 43, 44, 45, 46, 47, 48, 49, 50, 51, 52, 53, 54, 55, 56, 57] (fun j H' R' => R' = (At bx 0 [.int .i64 x0, .int .i64 x1, .int .i64 x2, .int .i64 x3, .int .i64 x4, .int .i64 x5, .bool x6, .slice Ax7 x7.length cx7, .slice Ax8 x8.length cx8, .slice Ax9 x9.length cx9, .slice Ax10 x10.length cx10, .slice Ax11 x11.length cx11, .slice Ax12 x12.length cx12, .slice Ax13 x13.length cx13, .slice Ax14 x14.length cx14, .int .i64 x15] :: R) ∧ ∃ bs' v', H' = .row v' 5 1 bs'.length (bA bs') :: .blk bw [v'] 90 :: H ∧ Wt bs3 (x10.flatMap Cod.enc) bs') ?_ ?_
  · skip
    repeat' (first | (apply aF) | (apply aA) | (apply aT) | (apply aG) | (apply aD) | (refine aE rfl rfl ?_; ((refine aX ?_)); refine aB ?_))
    have hbl := (dA hb3)
    refine cK [5, 39, 40, 41, 42, 43, 44, 45, 46, 47, 48, 49, 50, 51, 52, 53, 54, 55, 56, 57] (fun m j H2 R2 => ∃ (i : Nat) (bs' : List UInt8) (v' : Value), i + m = x10.length ∧ j 5 = .int .i64 (i : Int) ∧ (∀ p ∈ (At bx 0 [.int .i64 x0, .int .i64 x1, .int .i64 x2, .int .i64 x3, .int .i64 x4, .int .i64 x5, .bool x6, .slice Ax7 x7.length cx7, .slice Ax8 x8.length cx8, .slice Ax9 x9.length cx9, .slice Ax10 x10.length cx10, .slice Ax11 x11.length cx11, .slice Ax12 x12.length cx12, .slice Ax13 x13.length cx13, .slice Ax14 x14.length cx14, .int .i64 x15] :: R), p ∈ R2) ∧ H2 = .row v' 5 1 bs'.length (bA bs') :: .blk bw [v'] 90 :: H ∧ Wt bs3 ((x10.take i).flatMap Cod.enc) bs') x10.length eE ⟨0, bs3, v3, by omega, rfl, fun _ h => h, rfl, Wt.nil bs3⟩ ?_
    rintro m j' H2 R2 ⟨i, bs', v', him, hc, hR2, hH2, hW⟩
    subst hH2
    have hat2 := hR2 _ List.mem_cons_self
    have hm2 := hR2 _ (List.mem_cons_of_mem _ hS3)
    refine cQ (by simp only [dX, List.foldl_cons, List.foldl_nil, List.set_cons_succ, List.set_cons_zero, hc]; rfl) ?_
    have hWl := hW.2.1
    have htl := eG (enc := Cod.enc) x10 i
    rcases Nat.lt_or_ge i x10.length with hlt | hge
    · rcases Nat.lt_or_ge 250000 bs'.length with hf | hf
      · have hW := (hW.over (o2 := (x10.drop i).flatMap Cod.enc) hf).eq (fG x10 i)
        repeat' (first | (refine dS rfl ?_; refine aY fA ?_; refine jP bw bs' v' hf (by omega) ?_; refine aB ?_) | (apply aF) | (apply aA) | (apply bV) | (apply aI; exact rfl) | (apply aG) | (apply aD) | (apply aS) | (apply aR) | (apply aP; exact rfl; ((refine aQ rfl cJ rfl ?_)); refine aB ?_) | (apply aU; exact rfl; ((refine bM rfl rfl (fun h => ?_) (fun h => ?_))) <;> (first | (exfalso; omega) | refine aB ?_)) | (refine aE rfl rfl ?_; ((first | refine aH ?_ | refine bT rfl eJ ?_ | refine aC rfl ?_ | refine bQ rfl ?_ | refine dE rfl ?_)); refine aB ?_))
        exact fI (.row v' 5 1 bs'.length (bA bs') :: .blk bw [v'] 90 :: H) (At bx 0 [.int .i64 x0, .int .i64 x1, .int .i64 x2, .int .i64 x3, .int .i64 x4, .int .i64 x5, .bool x6, .slice Ax7 x7.length cx7, .slice Ax8 x8.length cx8, .slice Ax9 x9.length cx9, .slice Ax10 x10.length cx10, .slice Ax11 x11.length cx11, .slice Ax12 x12.length cx12, .slice Ax13 x13.length cx13, .slice Ax14 x14.length cx14, .int .i64 x15] :: R) eE ⟨rfl, bs', v', rfl, hW⟩ (fun w hs => hs.weaken bU hR2)
      · have ht := iH (enc := Cod.enc) x10 i hlt
        have hle := eG (enc := Cod.enc) x10 (i + 1)
        rw [ht, List.length_append] at hle
        repeat' (first | (refine dS rfl ?_; refine aY fA ?_; refine jQ bw bs' v' hf ?_; refine aB ?_) | (apply gL; exact rfl; refine dL (xs := x10) rfl rfl aV rfl (d := x10[i]) (by simp only [Int.toNat_natCast]; exact List.getElem?_eq_getElem (by omega)) (by omega) (fun b_ o y hy => ?_); refine aB ?_) | (refine aP rfl ?_; refine aZ rfl List.mem_cons_self (cN (UnpL.len _ _)) ?_; refine aB ?_) | (apply aF) | (apply aA) | (apply aT) | (apply bE) | (apply aK; exact rfl) | (apply aG) | (apply aD) | (apply aP; exact rfl; ((refine aQ rfl cJ rfl ?_)); refine aB ?_) | (apply aU; exact rfl; ((refine bM rfl rfl (fun h => ?_) (fun h => ?_))) <;> (first | (exfalso; omega) | refine aB ?_)) | (refine aE rfl rfl ?_; ((first | refine aH ?_ | refine bT rfl eJ ?_ | refine aC rfl ?_ | refine bQ rfl ?_ | refine dE rfl ?_)); refine aB ?_))
        refine eK rfl rfl (wD bw x10[i] y hy) (fun p hp => List.mem_cons_of_mem _ (List.mem_append_left _ hp)) rfl rfl (by omega) (fun bs2 v2 h2 => ?_)
        refine aB ?_
        repeat' (first | (apply aA) | (apply aG) | (apply aD) | (apply bP) | (apply aU; exact rfl; ((refine bI rfl rfl (by omega) (by omega) ?_)); refine aB ?_) | (refine aE rfl rfl ?_; ((first | refine aH ?_ | refine aX ?_)); refine aB ?_))
        exact cE (m - 1) (.row v2 5 1 bs2.length (bA bs2) :: .blk bw [v2] 90 :: H) (At bx 0 [.int .i64 x0, .int .i64 x1, .int .i64 x2, .int .i64 x3, .int .i64 x4, .int .i64 x5, .bool x6, .slice Ax7 x7.length cx7, .slice Ax8 x8.length cx8, .slice Ax9 x9.length cx9, .slice Ax10 x10.length cx10, .slice Ax11 x11.length cx11, .slice Ax12 x12.length cx12, .slice Ax13 x13.length cx13, .slice Ax14 x14.length cx14, .int .i64 x15] :: R) (by omega) eE ⟨i + 1, bs2, v2, by omega, rfl, fun _ h => h, rfl, by rw [ht]; exact hW.trans h2⟩ (fun w hs => hs.weaken bU (fun p hp => List.mem_cons_of_mem _ (List.mem_append_right _ (hR2 p hp))))
    · rw [List.take_of_length_le hge] at hW
      repeat' (first | (apply aF) | (apply aA) | (apply bV) | (apply aI; exact rfl) | (apply aG) | (apply aD) | (apply aS) | (apply aR) | (apply aP; exact rfl; ((refine aQ rfl cJ rfl ?_)); refine aB ?_) | (apply aU; exact rfl; ((refine bM rfl rfl (fun h => ?_) (fun h => ?_))) <;> (first | (exfalso; omega) | refine aB ?_)) | (refine aE rfl rfl ?_; ((first | refine aH ?_ | refine cI rfl eJ ?_ | refine aC rfl ?_ | refine bQ rfl ?_)); refine aB ?_) | (refine cR rfl ?_; refine aB ?_))
      exact fI (.row v' 5 1 bs'.length (bA bs') :: .blk bw [v'] 90 :: H) (At bx 0 [.int .i64 x0, .int .i64 x1, .int .i64 x2, .int .i64 x3, .int .i64 x4, .int .i64 x5, .bool x6, .slice Ax7 x7.length cx7, .slice Ax8 x8.length cx8, .slice Ax9 x9.length cx9, .slice Ax10 x10.length cx10, .slice Ax11 x11.length cx11, .slice Ax12 x12.length cx12, .slice Ax13 x13.length cx13, .slice Ax14 x14.length cx14, .int .i64 x15] :: R) eE ⟨rfl, bs', v', rfl, hW⟩ (fun w hs => hs.weaken bU hR2)
  rintro jj3 H' R' ⟨hRR, bs4, v4, hHH, h4⟩
  subst hRR hHH
  refine cQ (by simp only [dX, List.foldl_cons, List.foldl_nil, List.set_cons_succ, List.set_cons_zero]; rfl) ?_
  have hb4 := dB h4 hb3
  apply aF; apply aA
  repeat' (first | (apply aP; exact rfl; ((refine aQ rfl cJ rfl ?_)); refine aB ?_) | (refine aE rfl rfl ?_; ((first | refine aH ?_ | refine aC rfl ?_ | refine bQ rfl ?_)); refine aB ?_))
  refine eK rfl rfl (cX bw x11.length (by simp only [dD]; omega)) (fun _ h => (by cases h)) rfl rfl (dA hb4) (fun bs5 v5 h5 => ?_)
  refine aB ?_
  have hb5 := dB h5 hb4
  apply aG; apply aD
  refine iY [6, 63, 64, 65, 66, 67, 68, 69, 70, 71, 72, 73, 74, 75, 76, 77, 78, 79, 80, 81] (fun j H' R' => R' = (At bx 0 [.int .i64 x0, .int .i64 x1, .int .i64 x2, .int .i64 x3, .int .i64 x4, .int .i64 x5, .bool x6, .slice Ax7 x7.length cx7, .slice Ax8 x8.length cx8, .slice Ax9 x9.length cx9, .slice Ax10 x10.length cx10, .slice Ax11 x11.length cx11, .slice Ax12 x12.length cx12, .slice Ax13 x13.length cx13, .slice Ax14 x14.length cx14, .int .i64 x15] :: R) ∧ ∃ bs' v', H' = .row v' 5 1 bs'.length (bA bs') :: .blk bw [v'] 90 :: H ∧ Wt bs5 (x11.flatMap Cod.enc) bs') ?_ ?_
  · skip
    repeat' (first | (apply aF) | (apply aA) | (apply aT) | (apply aG) | (apply aD) | (refine aE rfl rfl ?_; ((refine aX ?_)); refine aB ?_))
    have hbl := (dA hb5)
    refine cK [6, 63, 64, 65, 66, 67, 68, 69, 70, 71, 72, 73, 74, 75, 76, 77, 78, 79, 80, 81] (fun m j H2 R2 => ∃ (i : Nat) (bs' : List UInt8) (v' : Value), i + m = x11.length ∧ j 6 = .int .i64 (i : Int) ∧ (∀ p ∈ (At bx 0 [.int .i64 x0, .int .i64 x1, .int .i64 x2, .int .i64 x3, .int .i64 x4, .int .i64 x5, .bool x6, .slice Ax7 x7.length cx7, .slice Ax8 x8.length cx8, .slice Ax9 x9.length cx9, .slice Ax10 x10.length cx10, .slice Ax11 x11.length cx11, .slice Ax12 x12.length cx12, .slice Ax13 x13.length cx13, .slice Ax14 x14.length cx14, .int .i64 x15] :: R), p ∈ R2) ∧ H2 = .row v' 5 1 bs'.length (bA bs') :: .blk bw [v'] 90 :: H ∧ Wt bs5 ((x11.take i).flatMap Cod.enc) bs') x11.length eE ⟨0, bs5, v5, by omega, rfl, fun _ h => h, rfl, Wt.nil bs5⟩ ?_
    rintro m j' H2 R2 ⟨i, bs', v', him, hc, hR2, hH2, hW⟩
    subst hH2
    have hat2 := hR2 _ List.mem_cons_self
    have hm2 := hR2 _ (List.mem_cons_of_mem _ hS4)
    refine cQ (by simp only [dX, List.foldl_cons, List.foldl_nil, List.set_cons_succ, List.set_cons_zero, hc]; rfl) ?_
    have hWl := hW.2.1
    have htl := eG (enc := Cod.enc) x11 i
    rcases Nat.lt_or_ge i x11.length with hlt | hge
    · rcases Nat.lt_or_ge 250000 bs'.length with hf | hf
      · have hW := (hW.over (o2 := (x11.drop i).flatMap Cod.enc) hf).eq (fG x11 i)
        repeat' (first | (refine dS rfl ?_; refine aY fA ?_; refine jP bw bs' v' hf (by omega) ?_; refine aB ?_) | (apply aF) | (apply aA) | (apply bV) | (apply aI; exact rfl) | (apply aG) | (apply aD) | (apply aS) | (apply aR) | (apply aP; exact rfl; ((refine aQ rfl cJ rfl ?_)); refine aB ?_) | (apply aU; exact rfl; ((refine bM rfl rfl (fun h => ?_) (fun h => ?_))) <;> (first | (exfalso; omega) | refine aB ?_)) | (refine aE rfl rfl ?_; ((first | refine aH ?_ | refine bT rfl eJ ?_ | refine aC rfl ?_ | refine bQ rfl ?_ | refine dE rfl ?_)); refine aB ?_))
        exact fI (.row v' 5 1 bs'.length (bA bs') :: .blk bw [v'] 90 :: H) (At bx 0 [.int .i64 x0, .int .i64 x1, .int .i64 x2, .int .i64 x3, .int .i64 x4, .int .i64 x5, .bool x6, .slice Ax7 x7.length cx7, .slice Ax8 x8.length cx8, .slice Ax9 x9.length cx9, .slice Ax10 x10.length cx10, .slice Ax11 x11.length cx11, .slice Ax12 x12.length cx12, .slice Ax13 x13.length cx13, .slice Ax14 x14.length cx14, .int .i64 x15] :: R) eE ⟨rfl, bs', v', rfl, hW⟩ (fun w hs => hs.weaken bU hR2)
      · have ht := iH (enc := Cod.enc) x11 i hlt
        have hle := eG (enc := Cod.enc) x11 (i + 1)
        rw [ht, List.length_append] at hle
        repeat' (first | (refine dS rfl ?_; refine aY fA ?_; refine jQ bw bs' v' hf ?_; refine aB ?_) | (apply gL; exact rfl; refine dL (xs := x11) rfl rfl aV rfl (d := x11[i]) (by simp only [Int.toNat_natCast]; exact List.getElem?_eq_getElem (by omega)) (by omega) (fun b_ o y hy => ?_); refine aB ?_) | (refine aP rfl ?_; refine aZ rfl List.mem_cons_self (cN (UnpL.len _ _)) ?_; refine aB ?_) | (apply aF) | (apply aA) | (apply aT) | (apply bE) | (apply aK; exact rfl) | (apply aG) | (apply aD) | (apply aP; exact rfl; ((refine aQ rfl cJ rfl ?_)); refine aB ?_) | (apply aU; exact rfl; ((refine bM rfl rfl (fun h => ?_) (fun h => ?_))) <;> (first | (exfalso; omega) | refine aB ?_)) | (refine aE rfl rfl ?_; ((first | refine aH ?_ | refine bT rfl eJ ?_ | refine aC rfl ?_ | refine bQ rfl ?_ | refine dE rfl ?_)); refine aB ?_))
        refine eK rfl rfl (r5 bw x11[i] y hy) (fun p hp => List.mem_cons_of_mem _ (List.mem_append_left _ hp)) rfl rfl (by omega) (fun bs2 v2 h2 => ?_)
        refine aB ?_
        repeat' (first | (apply aA) | (apply aG) | (apply aD) | (apply bP) | (apply aU; exact rfl; ((refine bI rfl rfl (by omega) (by omega) ?_)); refine aB ?_) | (refine aE rfl rfl ?_; ((first | refine aH ?_ | refine aX ?_)); refine aB ?_))
        exact cE (m - 1) (.row v2 5 1 bs2.length (bA bs2) :: .blk bw [v2] 90 :: H) (At bx 0 [.int .i64 x0, .int .i64 x1, .int .i64 x2, .int .i64 x3, .int .i64 x4, .int .i64 x5, .bool x6, .slice Ax7 x7.length cx7, .slice Ax8 x8.length cx8, .slice Ax9 x9.length cx9, .slice Ax10 x10.length cx10, .slice Ax11 x11.length cx11, .slice Ax12 x12.length cx12, .slice Ax13 x13.length cx13, .slice Ax14 x14.length cx14, .int .i64 x15] :: R) (by omega) eE ⟨i + 1, bs2, v2, by omega, rfl, fun _ h => h, rfl, by rw [ht]; exact hW.trans h2⟩ (fun w hs => hs.weaken bU (fun p hp => List.mem_cons_of_mem _ (List.mem_append_right _ (hR2 p hp))))
    · rw [List.take_of_length_le hge] at hW
      repeat' (first | (apply aF) | (apply aA) | (apply bV) | (apply aI; exact rfl) | (apply aG) | (apply aD) | (apply aS) | (apply aR) | (apply aP; exact rfl; ((refine aQ rfl cJ rfl ?_)); refine aB ?_) | (apply aU; exact rfl; ((refine bM rfl rfl (fun h => ?_) (fun h => ?_))) <;> (first | (exfalso; omega) | refine aB ?_)) | (refine aE rfl rfl ?_; ((first | refine aH ?_ | refine cI rfl eJ ?_ | refine aC rfl ?_ | refine bQ rfl ?_)); refine aB ?_) | (refine cR rfl ?_; refine aB ?_))
      exact fI (.row v' 5 1 bs'.length (bA bs') :: .blk bw [v'] 90 :: H) (At bx 0 [.int .i64 x0, .int .i64 x1, .int .i64 x2, .int .i64 x3, .int .i64 x4, .int .i64 x5, .bool x6, .slice Ax7 x7.length cx7, .slice Ax8 x8.length cx8, .slice Ax9 x9.length cx9, .slice Ax10 x10.length cx10, .slice Ax11 x11.length cx11, .slice Ax12 x12.length cx12, .slice Ax13 x13.length cx13, .slice Ax14 x14.length cx14, .int .i64 x15] :: R) eE ⟨rfl, bs', v', rfl, hW⟩ (fun w hs => hs.weaken bU hR2)
  rintro jj5 H' R' ⟨hRR, bs6, v6, hHH, h6⟩
  subst hRR hHH
  refine cQ (by simp only [dX, List.foldl_cons, List.foldl_nil, List.set_cons_succ, List.set_cons_zero]; rfl) ?_
  have hb6 := dB h6 hb5
  apply aF; apply aA
  repeat' (first | (refine aP rfl ?_; refine aQ (o := 0) (q := 12) rfl aV rfl ?_; refine aB ?_) | (refine aE rfl rfl ?_; ((first | refine aH ?_ | refine aC rfl ?_ | refine bQ rfl ?_)); refine aB ?_))
  refine eK rfl rfl (cX bw x12.length (by simp only [dD]; omega)) (fun _ h => (by cases h)) rfl rfl (dA hb6) (fun bs7 v7 h7 => ?_)
  refine aB ?_
  have hb7 := dB h7 hb6
  apply aG; apply aD
  refine iY [7, 88, 89, 90, 91, 92, 93, 94, 95, 96, 97, 98, 99, 100, 101, 102, 103, 104, 105, 106, 107, 108] (fun j H' R' => R' = (At bx 0 [.int .i64 x0, .int .i64 x1, .int .i64 x2, .int .i64 x3, .int .i64 x4, .int .i64 x5, .bool x6, .slice Ax7 x7.length cx7, .slice Ax8 x8.length cx8, .slice Ax9 x9.length cx9, .slice Ax10 x10.length cx10, .slice Ax11 x11.length cx11, .slice Ax12 x12.length cx12, .slice Ax13 x13.length cx13, .slice Ax14 x14.length cx14, .int .i64 x15] :: R) ∧ ∃ bs' v', H' = .row v' 5 1 bs'.length (bA bs') :: .blk bw [v'] 90 :: H ∧ Wt bs7 (x12.flatMap Cod.enc) bs') ?_ ?_
  · skip
    repeat' (first | (apply aF) | (apply aA) | (apply aT) | (apply aG) | (apply aD) | (refine aE rfl rfl ?_; ((refine aX ?_)); refine aB ?_))
    have hbl := (dA hb7)
    refine cK [7, 88, 89, 90, 91, 92, 93, 94, 95, 96, 97, 98, 99, 100, 101, 102, 103, 104, 105, 106, 107, 108] (fun m j H2 R2 => ∃ (i : Nat) (bs' : List UInt8) (v' : Value), i + m = x12.length ∧ j 7 = .int .i64 (i : Int) ∧ (∀ p ∈ (At bx 0 [.int .i64 x0, .int .i64 x1, .int .i64 x2, .int .i64 x3, .int .i64 x4, .int .i64 x5, .bool x6, .slice Ax7 x7.length cx7, .slice Ax8 x8.length cx8, .slice Ax9 x9.length cx9, .slice Ax10 x10.length cx10, .slice Ax11 x11.length cx11, .slice Ax12 x12.length cx12, .slice Ax13 x13.length cx13, .slice Ax14 x14.length cx14, .int .i64 x15] :: R), p ∈ R2) ∧ H2 = .row v' 5 1 bs'.length (bA bs') :: .blk bw [v'] 90 :: H ∧ Wt bs7 ((x12.take i).flatMap Cod.enc) bs') x12.length eE ⟨0, bs7, v7, by omega, rfl, fun _ h => h, rfl, Wt.nil bs7⟩ ?_
    rintro m j' H2 R2 ⟨i, bs', v', him, hc, hR2, hH2, hW⟩
    subst hH2
    have hat2 := hR2 _ List.mem_cons_self
    have hm2 := hR2 _ (List.mem_cons_of_mem _ hS5)
    refine cQ (by simp only [dX, List.foldl_cons, List.foldl_nil, List.set_cons_succ, List.set_cons_zero, hc]; rfl) ?_
    have hWl := hW.2.1
    have htl := eG (enc := Cod.enc) x12 i
    rcases Nat.lt_or_ge i x12.length with hlt | hge
    · rcases Nat.lt_or_ge 250000 bs'.length with hf | hf
      · have hW := (hW.over (o2 := (x12.drop i).flatMap Cod.enc) hf).eq (fG x12 i)
        repeat' (first | (refine aP rfl ?_; refine aQ (o := 0) (q := 12) rfl aV rfl ?_; refine aB ?_) | (refine dS rfl ?_; refine aY fA ?_; refine jP bw bs' v' hf (by omega) ?_; refine aB ?_) | (apply aF) | (apply aA) | (apply bV) | (apply aI; exact rfl) | (apply aG) | (apply aD) | (apply aS) | (apply aR) | (apply aU; exact rfl; ((refine bM rfl rfl (fun h => ?_) (fun h => ?_))) <;> (first | (exfalso; omega) | refine aB ?_)) | (refine aE rfl rfl ?_; ((first | refine aH ?_ | refine bT rfl eJ ?_ | refine aC rfl ?_ | refine bQ rfl ?_ | refine dE rfl ?_)); refine aB ?_))
        exact fI (.row v' 5 1 bs'.length (bA bs') :: .blk bw [v'] 90 :: H) (At bx 0 [.int .i64 x0, .int .i64 x1, .int .i64 x2, .int .i64 x3, .int .i64 x4, .int .i64 x5, .bool x6, .slice Ax7 x7.length cx7, .slice Ax8 x8.length cx8, .slice Ax9 x9.length cx9, .slice Ax10 x10.length cx10, .slice Ax11 x11.length cx11, .slice Ax12 x12.length cx12, .slice Ax13 x13.length cx13, .slice Ax14 x14.length cx14, .int .i64 x15] :: R) eE ⟨rfl, bs', v', rfl, hW⟩ (fun w hs => hs.weaken bU hR2)
      · have ht := iH (enc := Cod.enc) x12 i hlt
        have hle := eG (enc := Cod.enc) x12 (i + 1)
        rw [ht, List.length_append] at hle
        repeat' (first | (refine aP rfl ?_; refine aQ (o := 0) (q := 12) rfl aV rfl ?_; refine aB ?_) | (refine dS rfl ?_; refine aY fA ?_; refine jQ bw bs' v' hf ?_; refine aB ?_) | (apply gL; exact rfl; refine dL (xs := x12) rfl rfl aV rfl (d := x12[i]) (by simp only [Int.toNat_natCast]; exact List.getElem?_eq_getElem (by omega)) (by omega) (fun b_ o y hy => ?_); refine aB ?_) | (refine aP rfl ?_; refine aZ rfl List.mem_cons_self (cN (UnpL.len _ _)) ?_; refine aB ?_) | (apply aF) | (apply aA) | (apply aT) | (apply bE) | (apply aK; exact rfl) | (apply aG) | (apply aD) | (apply aU; exact rfl; ((refine bM rfl rfl (fun h => ?_) (fun h => ?_))) <;> (first | (exfalso; omega) | refine aB ?_)) | (refine aE rfl rfl ?_; ((first | refine aH ?_ | refine bT rfl eJ ?_ | refine aC rfl ?_ | refine bQ rfl ?_ | refine dE rfl ?_)); refine aB ?_))
        refine eK rfl rfl (e8 bw x12[i] y hy) (fun p hp => List.mem_cons_of_mem _ (List.mem_append_left _ hp)) rfl rfl (by omega) (fun bs2 v2 h2 => ?_)
        refine aB ?_
        repeat' (first | (apply aA) | (apply aG) | (apply aD) | (apply bP) | (apply aU; exact rfl; ((refine bI rfl rfl (by omega) (by omega) ?_)); refine aB ?_) | (refine aE rfl rfl ?_; ((first | refine aH ?_ | refine aX ?_)); refine aB ?_))
        exact cE (m - 1) (.row v2 5 1 bs2.length (bA bs2) :: .blk bw [v2] 90 :: H) (At bx 0 [.int .i64 x0, .int .i64 x1, .int .i64 x2, .int .i64 x3, .int .i64 x4, .int .i64 x5, .bool x6, .slice Ax7 x7.length cx7, .slice Ax8 x8.length cx8, .slice Ax9 x9.length cx9, .slice Ax10 x10.length cx10, .slice Ax11 x11.length cx11, .slice Ax12 x12.length cx12, .slice Ax13 x13.length cx13, .slice Ax14 x14.length cx14, .int .i64 x15] :: R) (by omega) eE ⟨i + 1, bs2, v2, by omega, rfl, fun _ h => h, rfl, by rw [ht]; exact hW.trans h2⟩ (fun w hs => hs.weaken bU (fun p hp => List.mem_cons_of_mem _ (List.mem_append_right _ (hR2 p hp))))
    · rw [List.take_of_length_le hge] at hW
      repeat' (first | (refine aP rfl ?_; refine aQ (o := 0) (q := 12) rfl aV rfl ?_; refine aB ?_) | (apply aF) | (apply aA) | (apply bV) | (apply aI; exact rfl) | (apply aG) | (apply aD) | (apply aS) | (apply aR) | (apply aU; exact rfl; ((refine bM rfl rfl (fun h => ?_) (fun h => ?_))) <;> (first | (exfalso; omega) | refine aB ?_)) | (refine aE rfl rfl ?_; ((first | refine aH ?_ | refine cI rfl eJ ?_ | refine aC rfl ?_ | refine bQ rfl ?_)); refine aB ?_) | (refine cR rfl ?_; refine aB ?_))
      exact fI (.row v' 5 1 bs'.length (bA bs') :: .blk bw [v'] 90 :: H) (At bx 0 [.int .i64 x0, .int .i64 x1, .int .i64 x2, .int .i64 x3, .int .i64 x4, .int .i64 x5, .bool x6, .slice Ax7 x7.length cx7, .slice Ax8 x8.length cx8, .slice Ax9 x9.length cx9, .slice Ax10 x10.length cx10, .slice Ax11 x11.length cx11, .slice Ax12 x12.length cx12, .slice Ax13 x13.length cx13, .slice Ax14 x14.length cx14, .int .i64 x15] :: R) eE ⟨rfl, bs', v', rfl, hW⟩ (fun w hs => hs.weaken bU hR2)
  rintro jj7 H' R' ⟨hRR, bs8, v8, hHH, h8⟩
  subst hRR hHH
  refine cQ (by simp only [dX, List.foldl_cons, List.foldl_nil, List.set_cons_succ, List.set_cons_zero]; rfl) ?_
  have hb8 := dB h8 hb7
  apply aF; apply aA
  repeat' (first | (apply aP; exact rfl; ((refine aQ rfl cJ rfl ?_)); refine aB ?_) | (refine aE rfl rfl ?_; ((first | refine aH ?_ | refine aC rfl ?_ | refine bQ rfl ?_)); refine aB ?_))
  refine eK rfl rfl (cX bw x13.length (by simp only [dD]; omega)) (fun _ h => (by cases h)) rfl rfl (dA hb8) (fun bs9 v9 h9 => ?_)
  refine aB ?_
  have hb9 := dB h9 hb8
  apply aG; apply aD
  refine iY [8, 114, 115, 116, 117, 118, 119, 120, 121, 122, 123, 124, 125, 126, 127, 128, 129, 130, 131, 132, 133, 134, 135, 136, 137, 138, 139, 140, 141] (fun j H' R' => R' = (At bx 0 [.int .i64 x0, .int .i64 x1, .int .i64 x2, .int .i64 x3, .int .i64 x4, .int .i64 x5, .bool x6, .slice Ax7 x7.length cx7, .slice Ax8 x8.length cx8, .slice Ax9 x9.length cx9, .slice Ax10 x10.length cx10, .slice Ax11 x11.length cx11, .slice Ax12 x12.length cx12, .slice Ax13 x13.length cx13, .slice Ax14 x14.length cx14, .int .i64 x15] :: R) ∧ ∃ bs' v', H' = .row v' 5 1 bs'.length (bA bs') :: .blk bw [v'] 90 :: H ∧ Wt bs9 (x13.flatMap Cod.enc) bs') ?_ ?_
  · skip
    repeat' (first | (apply aF) | (apply aA) | (apply aT) | (apply aG) | (apply aD) | (refine aE rfl rfl ?_; ((refine aX ?_)); refine aB ?_))
    have hbl := (dA hb9)
    refine cK [8, 114, 115, 116, 117, 118, 119, 120, 121, 122, 123, 124, 125, 126, 127, 128, 129, 130, 131, 132, 133, 134, 135, 136, 137, 138, 139, 140, 141] (fun m j H2 R2 => ∃ (i : Nat) (bs' : List UInt8) (v' : Value), i + m = x13.length ∧ j 8 = .int .i64 (i : Int) ∧ (∀ p ∈ (At bx 0 [.int .i64 x0, .int .i64 x1, .int .i64 x2, .int .i64 x3, .int .i64 x4, .int .i64 x5, .bool x6, .slice Ax7 x7.length cx7, .slice Ax8 x8.length cx8, .slice Ax9 x9.length cx9, .slice Ax10 x10.length cx10, .slice Ax11 x11.length cx11, .slice Ax12 x12.length cx12, .slice Ax13 x13.length cx13, .slice Ax14 x14.length cx14, .int .i64 x15] :: R), p ∈ R2) ∧ H2 = .row v' 5 1 bs'.length (bA bs') :: .blk bw [v'] 90 :: H ∧ Wt bs9 ((x13.take i).flatMap Cod.enc) bs') x13.length eE ⟨0, bs9, v9, by omega, rfl, fun _ h => h, rfl, Wt.nil bs9⟩ ?_
    rintro m j' H2 R2 ⟨i, bs', v', him, hc, hR2, hH2, hW⟩
    subst hH2
    have hat2 := hR2 _ List.mem_cons_self
    have hm2 := hR2 _ (List.mem_cons_of_mem _ hS6)
    refine cQ (by simp only [dX, List.foldl_cons, List.foldl_nil, List.set_cons_succ, List.set_cons_zero, hc]; rfl) ?_
    have hWl := hW.2.1
    have htl := eG (enc := Cod.enc) x13 i
    rcases Nat.lt_or_ge i x13.length with hlt | hge
    · rcases Nat.lt_or_ge 250000 bs'.length with hf | hf
      · have hW := (hW.over (o2 := (x13.drop i).flatMap Cod.enc) hf).eq (fG x13 i)
        repeat' (first | (refine dS rfl ?_; refine aY fA ?_; refine jP bw bs' v' hf (by omega) ?_; refine aB ?_) | (apply aF) | (apply aA) | (apply bV) | (apply aI; exact rfl) | (apply aG) | (apply aD) | (apply aS) | (apply aR) | (apply aP; exact rfl; ((refine aQ rfl cJ rfl ?_)); refine aB ?_) | (apply aU; exact rfl; ((refine bM rfl rfl (fun h => ?_) (fun h => ?_))) <;> (first | (exfalso; omega) | refine aB ?_)) | (refine aE rfl rfl ?_; ((first | refine aH ?_ | refine bT rfl eJ ?_ | refine aC rfl ?_ | refine bQ rfl ?_ | refine dE rfl ?_)); refine aB ?_))
        exact fI (.row v' 5 1 bs'.length (bA bs') :: .blk bw [v'] 90 :: H) (At bx 0 [.int .i64 x0, .int .i64 x1, .int .i64 x2, .int .i64 x3, .int .i64 x4, .int .i64 x5, .bool x6, .slice Ax7 x7.length cx7, .slice Ax8 x8.length cx8, .slice Ax9 x9.length cx9, .slice Ax10 x10.length cx10, .slice Ax11 x11.length cx11, .slice Ax12 x12.length cx12, .slice Ax13 x13.length cx13, .slice Ax14 x14.length cx14, .int .i64 x15] :: R) eE ⟨rfl, bs', v', rfl, hW⟩ (fun w hs => hs.weaken bU hR2)
      · have ht := iH (enc := Cod.enc) x13 i hlt
        obtain ⟨⟨t0, lv, ⟨tn, tx⟩, bo, ⟨tk, ti, kn, kx⟩⟩, hte⟩ : ∃ tt, x13[i] = tt := ⟨_, rfl⟩
        have htt : x13[((i : Nat) : Int).toNat]? = some (t0, lv, .mk tn tx, bo, .mk tk ti kn kx) := by rw [Int.toNat_natCast, List.getElem?_eq_getElem hlt, hte]
        have henc : cL t0 ++ Cod.enc (α := kZ) (lv, .mk tn tx, bo, .mk tk ti kn kx) = Cod.enc (α := lU) x13[i] := by rw [hte]; rfl
        have hel : (cL t0).length + (Cod.enc (α := kZ) (lv, .mk tn tx, bo, .mk tk ti kn kx)).length = (Cod.enc (α := lU) x13[i]).length := by rw [← henc, List.length_append]
        have hle := eG (enc := Cod.enc) x13 (i + 1)
        rw [ht, List.length_append] at hle
        repeat' (first | (refine dS rfl ?_; refine aY fA ?_; refine jQ bw bs' v' hf ?_; refine aB ?_) | (refine gL rfl ?_; refine dL (xs := x13) rfl rfl aV rfl (d := (t0, lv, .mk tn tx, bo, .mk tk ti kn kx)) htt (by omega) (fun b_ o y hy => ?_); obtain ⟨u0, u1, ⟨A1, c1⟩, u3, ⟨A2, c2⟩⟩ := y; refine aB ?_) | (apply aF) | (apply aA) | (apply aT) | (apply bE) | (apply aK; exact rfl) | (apply aG) | (apply aD) | (apply aP; exact rfl; ((refine aQ rfl cJ rfl ?_)); refine aB ?_) | (apply aU; exact rfl; ((refine bM rfl rfl (fun h => ?_) (fun h => ?_))) <;> (first | (exfalso; omega) | refine aB ?_)) | (refine aE rfl rfl ?_; ((first | refine aH ?_ | refine bT rfl eJ ?_ | refine aC rfl ?_ | refine bQ rfl ?_ | refine dE rfl ?_)); refine aB ?_))
        refine eK rfl rfl (cX bw t0 hy.1) (fun _ h => (by cases h)) rfl rfl (by omega) (fun bs32 v32 h32 => ?_)
        refine aB ?_
        have h32l := h32.2.1
        refine eF (.row v32 5 1 bs32.length (bA bs32) :: .blk bw [v32] 90 :: H) R2 (fun w hs => hs.weaken (List.Sublist.refl _) (fun p hp => List.Mem.tail _ (List.Mem.tail _ (List.Mem.tail _ hp)))) ?_
        repeat' (first | (refine gL rfl ?_; refine dL (xs := x13) rfl rfl aV rfl (d := (t0, lv, .mk tn tx, bo, .mk tk ti kn kx)) htt (by omega) (fun b_ o y hy => ?_); obtain ⟨u0, u1, ⟨A1, c1⟩, u3, ⟨A2, c2⟩⟩ := y; refine aB ?_) | (apply aA) | (apply aG) | (apply aD) | (apply aP; exact rfl; ((refine aQ rfl cJ rfl ?_)); refine aB ?_) | (refine aE rfl rfl ?_; ((first | refine aH ?_ | refine aC rfl ?_)); refine aB ?_))
        refine eK rfl rfl (e8 bw (lv, .mk tn tx, bo, .mk tk ti kn kx) ((), (A1, c1), (), (A2, c2)) hy.2) (fun p hp => List.mem_cons_of_mem _ (List.mem_append_left _ hp)) rfl rfl (by omega) (fun bs33 v33 h33 => ?_)
        refine aB ?_
        refine eF (.row v33 5 1 bs33.length (bA bs33) :: .blk bw [v33] 90 :: H) R2 (fun w hs => hs.weaken (List.Sublist.refl _) (fun p hp => List.Mem.tail _ (List.Mem.tail _ (List.Mem.tail _ hp)))) ?_
        repeat' (first | (apply aA) | (apply aG) | (apply aD) | (apply bP) | (apply aU; exact rfl; ((refine bI rfl rfl (by omega) (by omega) ?_)); refine aB ?_) | (refine aE rfl rfl ?_; ((first | refine aH ?_ | refine aX ?_)); refine aB ?_))
        exact cE (m - 1) (.row v33 5 1 bs33.length (bA bs33) :: .blk bw [v33] 90 :: H) (At bx 0 [.int .i64 x0, .int .i64 x1, .int .i64 x2, .int .i64 x3, .int .i64 x4, .int .i64 x5, .bool x6, .slice Ax7 x7.length cx7, .slice Ax8 x8.length cx8, .slice Ax9 x9.length cx9, .slice Ax10 x10.length cx10, .slice Ax11 x11.length cx11, .slice Ax12 x12.length cx12, .slice Ax13 x13.length cx13, .slice Ax14 x14.length cx14, .int .i64 x15] :: R) (by omega) eE ⟨i + 1, bs33, v33, by omega, rfl, fun _ h => h, rfl, by rw [ht]; exact hW.trans ((h32.trans h33).eq henc)⟩ (fun w hs => hs.weaken bU hR2)
    · rw [List.take_of_length_le hge] at hW
      repeat' (first | (apply aF) | (apply aA) | (apply bV) | (apply aI; exact rfl) | (apply aG) | (apply aD) | (apply aS) | (apply aR) | (apply aP; exact rfl; ((refine aQ rfl cJ rfl ?_)); refine aB ?_) | (apply aU; exact rfl; ((refine bM rfl rfl (fun h => ?_) (fun h => ?_))) <;> (first | (exfalso; omega) | refine aB ?_)) | (refine aE rfl rfl ?_; ((first | refine aH ?_ | refine cI rfl eJ ?_ | refine aC rfl ?_ | refine bQ rfl ?_)); refine aB ?_) | (refine cR rfl ?_; refine aB ?_))
      exact fI (.row v' 5 1 bs'.length (bA bs') :: .blk bw [v'] 90 :: H) (At bx 0 [.int .i64 x0, .int .i64 x1, .int .i64 x2, .int .i64 x3, .int .i64 x4, .int .i64 x5, .bool x6, .slice Ax7 x7.length cx7, .slice Ax8 x8.length cx8, .slice Ax9 x9.length cx9, .slice Ax10 x10.length cx10, .slice Ax11 x11.length cx11, .slice Ax12 x12.length cx12, .slice Ax13 x13.length cx13, .slice Ax14 x14.length cx14, .int .i64 x15] :: R) eE ⟨rfl, bs', v', rfl, hW⟩ (fun w hs => hs.weaken bU hR2)
  rintro jj9 H' R' ⟨hRR, bs10, v10, hHH, h10⟩
  subst hRR hHH
  refine cQ (by simp only [dX, List.foldl_cons, List.foldl_nil, List.set_cons_succ, List.set_cons_zero]; rfl) ?_
  have hb10 := dB h10 hb9
  repeat' (first | (apply aF) | (apply aA) | (apply aP; exact rfl; ((refine aQ rfl cJ rfl ?_)); refine aB ?_) | (refine aE rfl rfl ?_; ((first | refine aH ?_ | refine aC rfl ?_ | refine bQ rfl ?_)); refine aB ?_))
  refine eK rfl rfl (cX bw x14.length (by simp only [dD]; omega)) (fun _ h => (by cases h)) rfl rfl (dA hb10) (fun bs11 v11 h11 => ?_)
  refine aB ?_
  have hb11 := dB h11 hb10
  repeat' (first | (apply aF) | (apply aA) | (apply aT) | (apply aG) | (apply aD) | (refine aE rfl rfl ?_; ((refine aX ?_)); refine aB ?_))
  have hbl := hb11
  refine cK [9, 147, 148, 149, 150, 151, 152, 153, 154, 155, 156, 157, 158, 159, 160, 161, 162, 163, 164, 165] (fun m j H2 R2 => ∃ (i : Nat) (bs' : List UInt8) (v' : Value), i + m = x14.length ∧ j 9 = .int .i64 (i : Int) ∧ (∀ p ∈ (At bx 0 [.int .i64 x0, .int .i64 x1, .int .i64 x2, .int .i64 x3, .int .i64 x4, .int .i64 x5, .bool x6, .slice Ax7 x7.length cx7, .slice Ax8 x8.length cx8, .slice Ax9 x9.length cx9, .slice Ax10 x10.length cx10, .slice Ax11 x11.length cx11, .slice Ax12 x12.length cx12, .slice Ax13 x13.length cx13, .slice Ax14 x14.length cx14, .int .i64 x15] :: R), p ∈ R2) ∧ H2 = .row v' 5 1 bs'.length (bA bs') :: .blk bw [v'] 90 :: H ∧ Wt bs11 ((x14.take i).flatMap Cod.enc) bs') x14.length eE ⟨0, bs11, v11, by omega, rfl, fun _ h => h, rfl, Wt.nil bs11⟩ ?_
  rintro m j' H2 R2 ⟨i, bs', v', him, hc, hR2, hH2, hW⟩
  subst hH2
  have hat2 := hR2 _ List.mem_cons_self
  have hm2 := hR2 _ (List.mem_cons_of_mem _ hS7)
  refine cQ (by simp only [dX, List.foldl_cons, List.foldl_nil, List.set_cons_succ, List.set_cons_zero, hc]; rfl) ?_
  have hWl := hW.2.1
  have htl := eG (enc := Cod.enc) x14 i
  rcases Nat.lt_or_ge i x14.length with hlt | hge
  · rcases Nat.lt_or_ge 250000 bs'.length with hf | hf
    · have hW := (hW.over (o2 := (x14.drop i).flatMap Cod.enc) hf).eq (fG x14 i)
      repeat' (first | (refine dS rfl ?_; refine aY fA ?_; refine jP bw bs' v' hf (by omega) ?_; refine aB ?_) | (apply aF) | (apply aA) | (apply bV) | (apply aI; exact rfl) | (apply aG) | (apply aD) | (apply aS) | (apply aR) | (apply aP; exact rfl; ((refine aQ rfl cJ rfl ?_)); refine aB ?_) | (apply aU; exact rfl; ((refine bM rfl rfl (fun h => ?_) (fun h => ?_))) <;> (first | (exfalso; omega) | refine aB ?_)) | (refine aE rfl rfl ?_; ((first | refine aH ?_ | refine bT rfl eJ ?_ | refine aC rfl ?_ | refine bQ rfl ?_ | refine dE rfl ?_)); refine aB ?_))
      exact bC (.inr rfl) (fV rfl) (cG (.row v' 5 1 bs'.length (bA bs') :: .blk bw [v'] 90 :: H) R (fun w hs => hs.weaken bU (fun p hp => hR2 p (List.mem_cons_of_mem _ hp))) (hk bs' v' (h1.trans (h2.trans (h3.trans (h4.trans (h5.trans (h6.trans (h7.trans (h8.trans (h9.trans (h10.trans (h11.trans hW)))))))))))))
    · have ht := iH (enc := Cod.enc) x14 i hlt
      have hle := eG (enc := Cod.enc) x14 (i + 1)
      rw [ht, List.length_append] at hle
      repeat' (first | (refine dS rfl ?_; refine aY fA ?_; refine jQ bw bs' v' hf ?_; refine aB ?_) | (apply gL; exact rfl; refine dL (xs := x14) rfl rfl aV rfl (d := x14[i]) (by simp only [Int.toNat_natCast]; exact List.getElem?_eq_getElem (by omega)) (by omega) (fun b_ o y hy => ?_); refine aB ?_) | (refine aP rfl ?_; refine aZ rfl List.mem_cons_self (cN (UnpL.len _ _)) ?_; refine aB ?_) | (apply aF) | (apply aA) | (apply aT) | (apply bE) | (apply aK; exact rfl) | (apply aG) | (apply aD) | (apply aP; exact rfl; ((refine aQ rfl cJ rfl ?_)); refine aB ?_) | (apply aU; exact rfl; ((refine bM rfl rfl (fun h => ?_) (fun h => ?_))) <;> (first | (exfalso; omega) | refine aB ?_)) | (refine aE rfl rfl ?_; ((first | refine aH ?_ | refine bT rfl eJ ?_ | refine aC rfl ?_ | refine bQ rfl ?_ | refine dE rfl ?_)); refine aB ?_))
      refine eK rfl rfl (yC bw x14[i] y hy) (fun p hp => List.mem_cons_of_mem _ (List.mem_append_left _ hp)) rfl rfl (by omega) (fun bs2 v2 h2 => ?_)
      refine aB ?_
      repeat' (first | (apply aA) | (apply aG) | (apply aD) | (apply bP) | (apply aU; exact rfl; ((refine bI rfl rfl (by omega) (by omega) ?_)); refine aB ?_) | (refine aE rfl rfl ?_; ((first | refine aH ?_ | refine aX ?_)); refine aB ?_))
      exact cE (m - 1) (.row v2 5 1 bs2.length (bA bs2) :: .blk bw [v2] 90 :: H) (At bx 0 [.int .i64 x0, .int .i64 x1, .int .i64 x2, .int .i64 x3, .int .i64 x4, .int .i64 x5, .bool x6, .slice Ax7 x7.length cx7, .slice Ax8 x8.length cx8, .slice Ax9 x9.length cx9, .slice Ax10 x10.length cx10, .slice Ax11 x11.length cx11, .slice Ax12 x12.length cx12, .slice Ax13 x13.length cx13, .slice Ax14 x14.length cx14, .int .i64 x15] :: R) (by omega) eE ⟨i + 1, bs2, v2, by omega, rfl, fun _ h => h, rfl, by rw [ht]; exact hW.trans h2⟩ (fun w hs => hs.weaken bU (fun p hp => List.mem_cons_of_mem _ (List.mem_append_right _ (hR2 p hp))))
  · rw [List.take_of_length_le hge] at hW
    repeat' (first | (apply aF) | (apply aA) | (apply bV) | (apply aI; exact rfl) | (apply aG) | (apply aD) | (apply aS) | (apply aR) | (apply aP; exact rfl; ((refine aQ rfl cJ rfl ?_)); refine aB ?_) | (apply aU; exact rfl; ((refine bM rfl rfl (fun h => ?_) (fun h => ?_))) <;> (first | (exfalso; omega) | refine aB ?_)) | (refine aE rfl rfl ?_; ((first | refine aH ?_ | refine cI rfl eJ ?_ | refine aC rfl ?_ | refine bQ rfl ?_)); refine aB ?_) | (refine cR rfl ?_; refine aB ?_))
    exact bC (.inr rfl) (fV rfl) (cG (.row v' 5 1 bs'.length (bA bs') :: .blk bw [v'] 90 :: H) R (fun w hs => hs.weaken bU (fun p hp => hR2 p (List.mem_cons_of_mem _ hp))) (hk bs' v' (h1.trans (h2.trans (h3.trans (h4.trans (h5.trans (h6.trans (h7.trans (h8.trans (h9.trans (h10.trans (h11.trans hW)))))))))))))
end Go.Proofs.YtggdljhmbckpmaaGreat
