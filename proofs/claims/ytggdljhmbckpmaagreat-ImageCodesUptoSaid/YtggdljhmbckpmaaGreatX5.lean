/- The reference's writer: choices: walk. -/
import Derived.Test.YtggdljhmbckpmaaGreatXB
set_option linter.unusedVariables false
set_option linter.unusedSimpArgs false
namespace Go.Proofs.YtggdljhmbckpmaaGreat
open Go Go.RowKit
set_option maxRecDepth 100000
set_option maxHeartbeats 3200000

theorem yF {w0 : World} (bw : Nat) (x0 : Int) (hx0 : dD x0) (Ax1 : Option Addr) (cx1 : Nat) (x1 : List qS) (hx1 : x1.length ≤ 9223372036854775807) (Ax2 : Option Addr) (cx2 : Nat) (x2 : List Tm) (hx2 : x2.length ≤ 9223372036854775807) (x3 : Int) (hx3 : dD x3) (x4 : Int) (hx4 : dD x4) (x5 : Int) (hx5 : dD x5) (x6 : Int) (hx6 : dD x6) (x7 : Int) (hx7 : dD x7) (x8 : Int) (hx8 : dD x8) (x9 : Int) (hx9 : dD x9) (x10 : Bool) (Ax11 : Option Addr) (cx11 : Nat) (x11 : List Int) (hx11 : x11.length ≤ 9223372036854775807) (Ax12 : Option Addr) (cx12 : Nat) (x12 : List Int) (hx12 : x12.length ≤ 9223372036854775807) (x13 : Int) (hx13 : dD x13) (x14 : Int) (hx14 : dD x14) (x15 : Int) (hx15 : dD x15) (x16 : Int) (hx16 : dD x16) (x17 : Int) (hx17 : dD x17) : Wf Tryz.prog w0 [Sl (.slice Ax1 x1.length cx1) x1, Sl (.slice Ax2 x2.length cx2) x2, Sl (.slice Ax11 x11.length cx11) x11, Sl (.slice Ax12 x12.length cx12) x12] 86 [.pointer (some ⟨bw, 0, none⟩), .agg #[.int .i64 x0, .slice Ax1 x1.length cx1, .slice Ax2 x2.length cx2, .int .i64 x3, .int .i64 x4, .int .i64 x5, .int .i64 x6, .int .i64 x7, .int .i64 x8, .int .i64 x9, .bool x10, .slice Ax11 x11.length cx11, .slice Ax12 x12.length cx12, .int .i64 x13, .int .i64 x14, .int .i64 x15, .int .i64 x16, .int .i64 x17]] bw (cL x0 ++ (cL x1.length ++ ((x1.flatMap Cod.enc) ++ ((cL x2.length ++ x2.flatMap Tm.enc) ++ (cL x3 ++ (cL x4 ++ (cL x5 ++ (cL x6 ++ (cL x7 ++ (cL x8 ++ (cL x9 ++ (gN x10 ++ (fY x11 ++ (fY x12 ++ (cL x13 ++ (cL x14 ++ (cL x15 ++ (cL x16 ++ (cL x17))))))))))))))))))) := by
  intro H R K bs v hsub hb hk
  have hb0 := hb
  clear hb
  have hS0 : Sl (.slice Ax1 x1.length cx1) x1 ∈ R := hsub _ (by simp)
  have hS1 : Sl (.slice Ax2 x2.length cx2) x2 ∈ R := hsub _ (by simp)
  have hS2 : Sl (.slice Ax11 x11.length cx11) x11 ∈ R := hsub _ (by simp)
  have hS3 : Sl (.slice Ax12 x12.length cx12) x12 ∈ R := hsub _ (by simp)
  clear hsub
  refine bX Tryz.func86 rfl Tryz.ntmps86 eZ ?_
  apply aF; apply aA
  repeat' ((refine bG rfl rfl ?_; ((refine eB cW (fun b => ?_))); refine aB ?_))
  revert b
  intro bx
  apply aG; apply aD
  refine eS 0 rfl ?_
  refine iI rZ ?_
  repeat' (first | (apply aF) | (apply aA) | (apply aP; exact rfl; ((refine aQ rfl cJ rfl ?_)); refine aB ?_) | (refine aE rfl rfl ?_; ((first | refine aH ?_ | refine aC rfl ?_)); refine aB ?_))
  refine eK rfl rfl (cX bw x0 hx0) (fun _ h => (by cases h)) rfl rfl (dA hb0) (fun bs1 v1 h1 => ?_)
  refine aB ?_
  have hb1 := dB h1 hb0
  apply aG; apply aD
  apply aF; apply aA
  repeat' (first | (apply aP; exact rfl; ((refine aQ rfl cJ rfl ?_)); refine aB ?_) | (refine aE rfl rfl ?_; ((first | refine aH ?_ | refine aC rfl ?_ | refine bQ rfl ?_)); refine aB ?_))
  refine eK rfl rfl (cX bw x1.length (by simp only [dD]; omega)) (fun _ h => (by cases h)) rfl rfl (dA hb1) (fun bs2 v2 h2 => ?_)
  refine aB ?_
  have hb2 := dB h2 hb1
  apply aG; apply aD
  refine iY [4, 14, 15, 16, 17, 18, 19, 20, 21, 22, 23, 24, 25, 26, 27, 28, 29, 30, 31, 32, 33, 34, 35, 36, 37, 38, 39, 40, 41, 42, 43, 44, 45, 46, 47, 48, 49] (fun j H' R' => R' = (At bx 0 [.int .i64 x0, .slice Ax1 x1.length cx1, .slice Ax2 x2.length cx2, .int .i64 x3, .int .i64 x4, .int .i64 x5, .int .i64 x6, .int .i64 x7, .int .i64 x8, .int .i64 x9, .bool x10, .slice Ax11 x11.length cx11, .slice Ax12 x12.length cx12, .int .i64 x13, .int .i64 x14, .int .i64 x15, .int .i64 x16, .int .i64 x17] :: R) ∧ ∃ bs' v', H' = .row v' 5 1 bs'.length (bA bs') :: .blk bw [v'] 90 :: H ∧ Wt bs2 (x1.flatMap Cod.enc) bs') ?_ ?_
  · skip
    repeat' (first | (apply aF) | (apply aA) | (apply aT) | (apply aG) | (apply aD) | (refine aE rfl rfl ?_; ((refine aX ?_)); refine aB ?_))
    have hbl := (dA hb2)
    refine cK [4, 14, 15, 16, 17, 18, 19, 20, 21, 22, 23, 24, 25, 26, 27, 28, 29, 30, 31, 32, 33, 34, 35, 36, 37, 38, 39, 40, 41, 42, 43, 44, 45, 46, 47, 48, 49] (fun m j H2 R2 => ∃ (i : Nat) (bs' : List UInt8) (v' : Value), i + m = x1.length ∧ j 4 = .int .i64 (i : Int) ∧ (∀ p ∈ (At bx 0 [.int .i64 x0, .slice Ax1 x1.length cx1, .slice Ax2 x2.length cx2, .int .i64 x3, .int .i64 x4, .int .i64 x5, .int .i64 x6, .int .i64 x7, .int .i64 x8, .int .i64 x9, .bool x10, .slice Ax11 x11.length cx11, .slice Ax12 x12.length cx12, .int .i64 x13, .int .i64 x14, .int .i64 x15, .int .i64 x16, .int .i64 x17] :: R), p ∈ R2) ∧ H2 = .row v' 5 1 bs'.length (bA bs') :: .blk bw [v'] 90 :: H ∧ Wt bs2 ((x1.take i).flatMap Cod.enc) bs') x1.length eE ⟨0, bs2, v2, by omega, rfl, fun _ h => h, rfl, Wt.nil bs2⟩ ?_
    rintro m j' H2 R2 ⟨i, bs', v', him, hc, hR2, hH2, hW⟩
    subst hH2
    have hat2 := hR2 _ List.mem_cons_self
    have hm2 := hR2 _ (List.mem_cons_of_mem _ hS0)
    refine cQ (by simp only [dX, List.foldl_cons, List.foldl_nil, List.set_cons_succ, List.set_cons_zero, hc]; rfl) ?_
    have hWl := hW.2.1
    have htl := eG (enc := Cod.enc) x1 i
    rcases Nat.lt_or_ge i x1.length with hlt | hge
    · rcases Nat.lt_or_ge 250000 bs'.length with hf | hf
      · have hW := (hW.over (o2 := (x1.drop i).flatMap Cod.enc) hf).eq (fG x1 i)
        repeat' (first | (refine dS rfl ?_; refine aY fA ?_; refine jP bw bs' v' hf (by omega) ?_; refine aB ?_) | (apply aF) | (apply aA) | (apply bV) | (apply aI; exact rfl) | (apply aG) | (apply aD) | (apply aS) | (apply aR) | (apply aP; exact rfl; ((refine aQ rfl cJ rfl ?_)); refine aB ?_) | (apply aU; exact rfl; ((refine bM rfl rfl (fun h => ?_) (fun h => ?_))) <;> (first | (exfalso; omega) | refine aB ?_)) | (refine aE rfl rfl ?_; ((first | refine aH ?_ | refine bT rfl eJ ?_ | refine aC rfl ?_ | refine bQ rfl ?_ | refine dE rfl ?_)); refine aB ?_))
        exact fI (.row v' 5 1 bs'.length (bA bs') :: .blk bw [v'] 90 :: H) (At bx 0 [.int .i64 x0, .slice Ax1 x1.length cx1, .slice Ax2 x2.length cx2, .int .i64 x3, .int .i64 x4, .int .i64 x5, .int .i64 x6, .int .i64 x7, .int .i64 x8, .int .i64 x9, .bool x10, .slice Ax11 x11.length cx11, .slice Ax12 x12.length cx12, .int .i64 x13, .int .i64 x14, .int .i64 x15, .int .i64 x16, .int .i64 x17] :: R) eE ⟨rfl, bs', v', rfl, hW⟩ (fun w hs => hs.weaken bU hR2)
      · have ht := iH (enc := Cod.enc) x1 i hlt
        obtain ⟨⟨t1, t2, t3⟩, hte⟩ : ∃ tt, x1[i] = tt := ⟨_, rfl⟩
        have htt : x1[((i : Nat) : Int).toNat]? = some (t1, t2, t3) := by rw [Int.toNat_natCast, List.getElem?_eq_getElem hlt, hte]
        have henc : cL t1 ++ (cL t2 ++ cL t3) = Cod.enc (α := qS) x1[i] := by rw [hte]; rfl
        have hel : (cL t1).length + ((cL t2).length + (cL t3).length) = (Cod.enc (α := qS) x1[i]).length := by rw [← henc, List.length_append, List.length_append]
        have hle := eG (enc := Cod.enc) x1 (i + 1)
        rw [ht, List.length_append] at hle
        repeat' (first | (refine dS rfl ?_; refine aY fA ?_; refine jQ bw bs' v' hf ?_; refine aB ?_) | (refine gL rfl ?_; refine dL (xs := x1) rfl rfl aV rfl (d := (t1, t2, t3)) htt (by omega) (fun b_ o y hy => ?_); refine aB ?_) | (apply aF) | (apply aA) | (apply aT) | (apply bE) | (apply aK; exact rfl) | (apply aG) | (apply aD) | (apply aP; exact rfl; ((refine aQ rfl cJ rfl ?_)); refine aB ?_) | (apply aU; exact rfl; ((refine bM rfl rfl (fun h => ?_) (fun h => ?_))) <;> (first | (exfalso; omega) | refine aB ?_)) | (refine aE rfl rfl ?_; ((first | refine aH ?_ | refine bT rfl eJ ?_ | refine aC rfl ?_ | refine bQ rfl ?_ | refine dE rfl ?_)); refine aB ?_))
        refine eK rfl rfl (cX bw t1 hy.1) (fun _ h => (by cases h)) rfl rfl (by omega) (fun bs32 v32 h32 => ?_)
        refine aB ?_
        have h32l := h32.2.1
        refine eF (.row v32 5 1 bs32.length (bA bs32) :: .blk bw [v32] 90 :: H) R2 (fun w hs => hs.weaken (List.Sublist.refl _) (fun p hp => List.Mem.tail _ hp)) ?_
        repeat' (first | (refine gL rfl ?_; refine dL (xs := x1) rfl rfl aV rfl (d := (t1, t2, t3)) htt (by omega) (fun b_ o y hy => ?_); refine aB ?_) | (apply aF) | (apply aA) | (apply aG) | (apply aD) | (apply aP; exact rfl; ((refine aQ rfl cJ rfl ?_)); refine aB ?_) | (refine aE rfl rfl ?_; ((first | refine aH ?_ | refine aC rfl ?_)); refine aB ?_))
        refine eK rfl rfl (cX bw t2 hy.2.1) (fun _ h => (by cases h)) rfl rfl (by omega) (fun bs33 v33 h33 => ?_)
        refine aB ?_
        have h33l := h33.2.1
        refine eF (.row v33 5 1 bs33.length (bA bs33) :: .blk bw [v33] 90 :: H) R2 (fun w hs => hs.weaken (List.Sublist.refl _) (fun p hp => List.Mem.tail _ hp)) ?_
        repeat' (first | (refine gL rfl ?_; refine dL (xs := x1) rfl rfl aV rfl (d := (t1, t2, t3)) htt (by omega) (fun b_ o y hy => ?_); refine aB ?_) | (apply aA) | (apply aG) | (apply aD) | (apply aP; exact rfl; ((refine aQ rfl cJ rfl ?_)); refine aB ?_) | (refine aE rfl rfl ?_; ((first | refine aH ?_ | refine aC rfl ?_)); refine aB ?_))
        refine eK rfl rfl (cX bw t3 hy.2.2) (fun _ h => (by cases h)) rfl rfl (by omega) (fun bs34 v34 h34 => ?_)
        refine aB ?_
        have h34l := h34.2.1
        refine eF (.row v34 5 1 bs34.length (bA bs34) :: .blk bw [v34] 90 :: H) R2 (fun w hs => hs.weaken (List.Sublist.refl _) (fun p hp => List.Mem.tail _ hp)) ?_
        repeat' (first | (apply aA) | (apply aG) | (apply aD) | (apply bP) | (apply aU; exact rfl; ((refine bI rfl rfl (by omega) (by omega) ?_)); refine aB ?_) | (refine aE rfl rfl ?_; ((first | refine aH ?_ | refine aX ?_)); refine aB ?_))
        exact cE (m - 1) (.row v34 5 1 bs34.length (bA bs34) :: .blk bw [v34] 90 :: H) (At bx 0 [.int .i64 x0, .slice Ax1 x1.length cx1, .slice Ax2 x2.length cx2, .int .i64 x3, .int .i64 x4, .int .i64 x5, .int .i64 x6, .int .i64 x7, .int .i64 x8, .int .i64 x9, .bool x10, .slice Ax11 x11.length cx11, .slice Ax12 x12.length cx12, .int .i64 x13, .int .i64 x14, .int .i64 x15, .int .i64 x16, .int .i64 x17] :: R) (by omega) eE ⟨i + 1, bs34, v34, by omega, rfl, fun _ h => h, rfl, by rw [ht]; exact hW.trans ((h32.trans (h33.trans h34)).eq henc)⟩ (fun w hs => hs.weaken bU hR2)
    · rw [List.take_of_length_le hge] at hW
      repeat' (first | (apply aF) | (apply aA) | (apply bV) | (apply aI; exact rfl) | (apply aG) | (apply aD) | (apply aS) | (apply aR) | (apply aP; exact rfl; ((refine aQ rfl cJ rfl ?_)); refine aB ?_) | (apply aU; exact rfl; ((refine bM rfl rfl (fun h => ?_) (fun h => ?_))) <;> (first | (exfalso; omega) | refine aB ?_)) | (refine aE rfl rfl ?_; ((first | refine aH ?_ | refine cI rfl eJ ?_ | refine aC rfl ?_ | refine bQ rfl ?_)); refine aB ?_) | (refine cR rfl ?_; refine aB ?_))
      exact fI (.row v' 5 1 bs'.length (bA bs') :: .blk bw [v'] 90 :: H) (At bx 0 [.int .i64 x0, .slice Ax1 x1.length cx1, .slice Ax2 x2.length cx2, .int .i64 x3, .int .i64 x4, .int .i64 x5, .int .i64 x6, .int .i64 x7, .int .i64 x8, .int .i64 x9, .bool x10, .slice Ax11 x11.length cx11, .slice Ax12 x12.length cx12, .int .i64 x13, .int .i64 x14, .int .i64 x15, .int .i64 x16, .int .i64 x17] :: R) eE ⟨rfl, bs', v', rfl, hW⟩ (fun w hs => hs.weaken bU hR2)
  rintro jj2 H' R' ⟨hRR, bs3, v3, hHH, h3⟩
  subst hRR hHH
  refine cQ (by simp only [dX, List.foldl_cons, List.foldl_nil, List.set_cons_succ, List.set_cons_zero]; rfl) ?_
  have hb3 := dB h3 hb2
  repeat' (first | (apply aF) | (apply aA) | (apply aP; exact rfl; ((refine aQ rfl cJ rfl ?_)); refine aB ?_) | (refine aE rfl rfl ?_; ((first | refine aH ?_ | refine aC rfl ?_)); refine aB ?_))
  refine eK rfl rfl (mV bw Ax2 cx2 x2 hx2) (bL aV (fun _ h => (by cases h))) rfl rfl (dA hb3) (fun bs4 v4 h4 => ?_)
  refine aB ?_
  have hb4 := dB h4 hb3
  repeat' (first | (apply aF) | (apply aA) | (apply aG) | (apply aD) | (apply aP; exact rfl; ((refine aQ rfl cJ rfl ?_)); refine aB ?_) | (refine aE rfl rfl ?_; ((first | refine aH ?_ | refine aC rfl ?_)); refine aB ?_))
  refine eK rfl rfl (cX bw x3 hx3) (fun _ h => (by cases h)) rfl rfl (dA hb4) (fun bs5 v5 h5 => ?_)
  refine aB ?_
  have hb5 := dB h5 hb4
  repeat' (first | (apply aF) | (apply aA) | (apply aG) | (apply aD) | (apply aP; exact rfl; ((refine aQ rfl cJ rfl ?_)); refine aB ?_) | (refine aE rfl rfl ?_; ((first | refine aH ?_ | refine aC rfl ?_)); refine aB ?_))
  refine eK rfl rfl (cX bw x4 hx4) (fun _ h => (by cases h)) rfl rfl (dA hb5) (fun bs6 v6 h6 => ?_)
  refine aB ?_
  have hb6 := dB h6 hb5
  repeat' (first | (apply aF) | (apply aA) | (apply aG) | (apply aD) | (apply aP; exact rfl; ((refine aQ rfl cJ rfl ?_)); refine aB ?_) | (refine aE rfl rfl ?_; ((first | refine aH ?_ | refine aC rfl ?_)); refine aB ?_))
  refine eK rfl rfl (cX bw x5 hx5) (fun _ h => (by cases h)) rfl rfl (dA hb6) (fun bs7 v7 h7 => ?_)
  refine aB ?_
  have hb7 := dB h7 hb6
  repeat' (first | (apply aF) | (apply aA) | (apply aG) | (apply aD) | (apply aP; exact rfl; ((refine aQ rfl cJ rfl ?_)); refine aB ?_) | (refine aE rfl rfl ?_; ((first | refine aH ?_ | refine aC rfl ?_)); refine aB ?_))
  refine eK rfl rfl (cX bw x6 hx6) (fun _ h => (by cases h)) rfl rfl (dA hb7) (fun bs8 v8 h8 => ?_)
  refine aB ?_
  have hb8 := dB h8 hb7
  repeat' (first | (apply aF) | (apply aA) | (apply aG) | (apply aD) | (apply aP; exact rfl; ((refine aQ rfl cJ rfl ?_)); refine aB ?_) | (refine aE rfl rfl ?_; ((first | refine aH ?_ | refine aC rfl ?_)); refine aB ?_))
  refine eK rfl rfl (cX bw x7 hx7) (fun _ h => (by cases h)) rfl rfl (dA hb8) (fun bs9 v9 h9 => ?_)
  refine aB ?_
  have hb9 := dB h9 hb8
  repeat' (first | (apply aF) | (apply aA) | (apply aG) | (apply aD) | (apply aP; exact rfl; ((refine aQ rfl cJ rfl ?_)); refine aB ?_) | (refine aE rfl rfl ?_; ((first | refine aH ?_ | refine aC rfl ?_)); refine aB ?_))
  refine eK rfl rfl (cX bw x8 hx8) (fun _ h => (by cases h)) rfl rfl (dA hb9) (fun bs10 v10 h10 => ?_)
  refine aB ?_
  have hb10 := dB h10 hb9
  repeat' (first | (apply aF) | (apply aA) | (apply aG) | (apply aD) | (apply aP; exact rfl; ((refine aQ rfl cJ rfl ?_)); refine aB ?_) | (refine aE rfl rfl ?_; ((first | refine aH ?_ | refine aC rfl ?_)); refine aB ?_))
  refine eK rfl rfl (cX bw x9 hx9) (fun _ h => (by cases h)) rfl rfl (dA hb10) (fun bs11 v11 h11 => ?_)
  refine aB ?_
  have hb11 := dB h11 hb10
  repeat' (first | (apply aF) | (apply aA) | (apply aG) | (apply aD) | (apply aP; exact rfl; ((refine aQ rfl cJ rfl ?_)); refine aB ?_) | (refine aE rfl rfl ?_; ((first | refine aH ?_ | refine aC rfl ?_)); refine aB ?_))
  refine eK rfl rfl (mO bw x10) (fun _ h => (by cases h)) rfl rfl (dA hb11) (fun bs12 v12 h12 => ?_)
  refine aB ?_
  have hb12 := dB h12 hb11
  repeat' (first | (apply aF) | (apply aA) | (apply aG) | (apply aD) | (apply aP; exact rfl; ((refine aQ rfl cJ rfl ?_)); refine aB ?_) | (refine aE rfl rfl ?_; ((first | refine aH ?_ | refine aC rfl ?_)); refine aB ?_))
  refine eK rfl rfl (jK bw Ax11 cx11 x11 hx11) (bL aV (fun _ h => (by cases h))) rfl rfl (dA hb12) (fun bs13 v13 h13 => ?_)
  refine aB ?_
  have hb13 := dB h13 hb12
  repeat' (first | (apply aF) | (apply aA) | (apply aG) | (apply aD) | (apply aP; exact rfl; ((refine aQ rfl cJ rfl ?_)); refine aB ?_) | (refine aE rfl rfl ?_; ((first | refine aH ?_ | refine aC rfl ?_)); refine aB ?_))
  refine eK rfl rfl (jK bw Ax12 cx12 x12 hx12) (bL aV (fun _ h => (by cases h))) rfl rfl (dA hb13) (fun bs14 v14 h14 => ?_)
  refine aB ?_
  have hb14 := dB h14 hb13
  repeat' (first | (apply aF) | (apply aA) | (apply aG) | (apply aD) | (apply aP; exact rfl; ((refine aQ rfl cJ rfl ?_)); refine aB ?_) | (refine aE rfl rfl ?_; ((first | refine aH ?_ | refine aC rfl ?_)); refine aB ?_))
  refine eK rfl rfl (cX bw x13 hx13) (fun _ h => (by cases h)) rfl rfl (dA hb14) (fun bs15 v15 h15 => ?_)
  refine aB ?_
  have hb15 := dB h15 hb14
  repeat' (first | (apply aF) | (apply aA) | (apply aG) | (apply aD) | (apply aP; exact rfl; ((refine aQ rfl cJ rfl ?_)); refine aB ?_) | (refine aE rfl rfl ?_; ((first | refine aH ?_ | refine aC rfl ?_)); refine aB ?_))
  refine eK rfl rfl (cX bw x14 hx14) (fun _ h => (by cases h)) rfl rfl (dA hb15) (fun bs16 v16 h16 => ?_)
  refine aB ?_
  have hb16 := dB h16 hb15
  repeat' (first | (apply aF) | (apply aA) | (apply aG) | (apply aD) | (apply aP; exact rfl; ((refine aQ rfl cJ rfl ?_)); refine aB ?_) | (refine aE rfl rfl ?_; ((first | refine aH ?_ | refine aC rfl ?_)); refine aB ?_))
  refine eK rfl rfl (cX bw x15 hx15) (fun _ h => (by cases h)) rfl rfl (dA hb16) (fun bs17 v17 h17 => ?_)
  refine aB ?_
  have hb17 := dB h17 hb16
  repeat' (first | (apply aF) | (apply aA) | (apply aG) | (apply aD) | (apply aP; exact rfl; ((refine aQ rfl cJ rfl ?_)); refine aB ?_) | (refine aE rfl rfl ?_; ((first | refine aH ?_ | refine aC rfl ?_)); refine aB ?_))
  refine eK rfl rfl (cX bw x16 hx16) (fun _ h => (by cases h)) rfl rfl (dA hb17) (fun bs18 v18 h18 => ?_)
  refine aB ?_
  have hb18 := dB h18 hb17
  repeat' (first | (apply aA) | (apply aG) | (apply aD) | (apply aP; exact rfl; ((refine aQ rfl cJ rfl ?_)); refine aB ?_) | (refine aE rfl rfl ?_; ((first | refine aH ?_ | refine aC rfl ?_)); refine aB ?_))
  refine eK rfl rfl (cX bw x17 hx17) (fun _ h => (by cases h)) rfl rfl hb18 (fun bs19 v19 h19 => ?_)
  refine aB ?_
  repeat' ((apply aG))
  exact bC (.inr rfl) (fV rfl) (cG (.row v19 5 1 bs19.length (bA bs19) :: .blk bw [v19] 90 :: H) R (fun w hs => hs.weaken bU cZ) (hk bs19 v19 (h1.trans (h2.trans (h3.trans (h4.trans (h5.trans (h6.trans (h7.trans (h8.trans (h9.trans (h10.trans (h11.trans (h12.trans (h13.trans (h14.trans (h15.trans (h16.trans (h17.trans (h18.trans h19))))))))))))))))))))
theorem yC {w0 : World} (bw : Nat) (x : nT) (y : Unp.Y nT) (hok : Unp.ok x y) : Wf Tryz.prog w0 (Unp.fs x y) 86 [.pointer (some ⟨bw, 0, none⟩), .agg (Unp.cs x y).toArray] bw (Cod.enc x) := by
  obtain ⟨n1, l1, l2, n2, n3, n4, n5, n6, n7, n8, b1, l3, l4, m1, m2, m3, m4, m5⟩ := x
  obtain ⟨u1, ⟨A1, c1⟩, ⟨A2, c2⟩, u2, u3, u4, u5, u6, u7, u8, u9, ⟨A3, c3⟩, ⟨A4, c4⟩, w1, w2, w3, w4, w5⟩ := y
  obtain ⟨h1, g1, g2, h2, h3, h4, h5, h6, h7, h8, _, g3, g4, k1, k2, k3, k4, k5⟩ := hok
  exact pL (yF bw n1 h1 A1 c1 l1 (Nat.le_trans g1.1 g1.2) A2 c2 l2 (Nat.le_trans g2.1 g2.2) n2 h2 n3 h3 n4 h4 n5 h5 n6 h6 n7 h7 n8 h8 b1 A3 c3 l3 (Nat.le_trans g3.1 g3.2) A4 c4 l4 (Nat.le_trans g4.1 g4.2) m1 k1 m2 k2 m3 k3 m4 k4 m5 k5) (by simp only [Cod.enc, fY, List.append_assoc]) rfl
end Go.Proofs.YtggdljhmbckpmaaGreat
