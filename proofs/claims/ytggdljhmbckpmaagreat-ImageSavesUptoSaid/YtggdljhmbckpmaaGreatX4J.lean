/- The reference's writer: frames, brackets, scopes, values: walks. The reference's writer: choices: walk. -/
import Derived.Test.YtggdljhmbckpmaaGreatN6J
set_option linter.unusedVariables false
set_option linter.unusedSimpArgs false
namespace Go.Proofs.YtggdljhmbckpmaaGreat
open Go Go.RowKit
set_option maxRecDepth 100000
set_option maxHeartbeats 3200000

theorem rframe_x {w0 : World} (bw : Nat) (Ax0 : Option Addr) (cx0 : Nat) (x0 : List Tm) (hx0 : x0.length ≤ 9223372036854775807) (Ax1 : Option Addr) (cx1 : Nat) (x1 : List Tm) (hx1 : x1.length ≤ 9223372036854775807) (x2 : Int) (hx2 : dO x2) (x3 : Int) (hx3 : dO x3) (x4 : Int) (hx4 : dO x4) : Wf Tryz.prog w0 [Sl (.slice Ax0 x0.length cx0) x0, Sl (.slice Ax1 x1.length cx1) x1] 82 [.pointer (some ⟨bw, 0, none⟩), .agg #[.slice Ax0 x0.length cx0, .slice Ax1 x1.length cx1, .int .i64 x2, .int .i64 x3, .int .i64 x4]] bw ((dA x0.length ++ x0.flatMap Tm.enc) ++ ((dA x1.length ++ x1.flatMap Tm.enc) ++ (dA x2 ++ (dA x3 ++ (dA x4))))) := by
  intro H R K bs v hsub hb hk
  have hb0 := hb
  clear hb
  have hS0 : Sl (.slice Ax0 x0.length cx0) x0 ∈ R := hsub _ dB
  have hS1 : Sl (.slice Ax1 x1.length cx1) x1 ∈ R := hsub _ dB
  clear hsub
  refine bV Tryz.func82 rfl Tryz.ntmps82 fI ?_
  apply aF; apply aA
  repeat' ((refine bJ rfl rfl ?_; ((refine dX cW (fun b => ?_))); refine aB ?_))
  revert b
  intro bx
  apply aH; apply aD
  refine fO 0 rfl ?_
  refine jB tH ?_
  repeat' (first | (apply aF) | (apply aA) | (apply aP; exact rfl; ((refine aQ rfl cL rfl ?_)); refine aB ?_) | (refine aE rfl rfl ?_; ((first | refine aG ?_ | refine aC rfl ?_)); refine aB ?_))
  refine fJ rfl rfl (oJ bw Ax0 cx0 x0 hx0) (bT aX (fun _ h => (by cases h))) rfl rfl (dM hb0) (fun bs1 v1 h1 => ?_)
  refine aB ?_
  have hb1 := dL h1 hb0
  repeat' (first | (apply aF) | (apply aA) | (apply aH) | (apply aD) | (apply aP; exact rfl; ((refine aQ rfl cL rfl ?_)); refine aB ?_) | (refine aE rfl rfl ?_; ((first | refine aG ?_ | refine aC rfl ?_)); refine aB ?_))
  refine fJ rfl rfl (oJ bw Ax1 cx1 x1 hx1) (bT aX (fun _ h => (by cases h))) rfl rfl (dM hb1) (fun bs2 v2 h2 => ?_)
  refine aB ?_
  have hb2 := dL h2 hb1
  repeat' (first | (apply aF) | (apply aA) | (apply aH) | (apply aD) | (apply aP; exact rfl; ((refine aQ rfl cL rfl ?_)); refine aB ?_) | (refine aE rfl rfl ?_; ((first | refine aG ?_ | refine aC rfl ?_)); refine aB ?_))
  refine fJ rfl rfl (dH bw x2 hx2) (fun _ h => (by cases h)) rfl rfl (dM hb2) (fun bs3 v3 h3 => ?_)
  refine aB ?_
  have hb3 := dL h3 hb2
  repeat' (first | (apply aF) | (apply aA) | (apply aH) | (apply aD) | (apply aP; exact rfl; ((refine aQ rfl cL rfl ?_)); refine aB ?_) | (refine aE rfl rfl ?_; ((first | refine aG ?_ | refine aC rfl ?_)); refine aB ?_))
  refine fJ rfl rfl (dH bw x3 hx3) (fun _ h => (by cases h)) rfl rfl (dM hb3) (fun bs4 v4 h4 => ?_)
  refine aB ?_
  have hb4 := dL h4 hb3
  repeat' (first | (apply aA) | (apply aH) | (apply aD) | (apply aP; exact rfl; ((refine aQ rfl cL rfl ?_)); refine aB ?_) | (refine aE rfl rfl ?_; ((first | refine aG ?_ | refine aC rfl ?_)); refine aB ?_))
  refine fJ rfl rfl (dH bw x4 hx4) (fun _ h => (by cases h)) rfl rfl hb4 (fun bs5 v5 h5 => ?_)
  refine aB ?_
  repeat' ((apply aH))
  exact aZ (.inr rfl) (gQ rfl) (cA (.row v5 5 1 bs5.length (bC bs5) :: .blk bw [v5] 90 :: H) R dV (hk bs5 v5 (h1.trans (h2.trans (h3.trans (h4.trans h5))))))
theorem rframe_w {w0 : World} (bw : Nat) (x : pU) (y : Unp.Y pU) (hok : Unp.ok x y) : Wf Tryz.prog w0 (Unp.fs x y) 82 [.pointer (some ⟨bw, 0, none⟩), .agg (Unp.cs x y).toArray] bw (Cod.enc x) := by
  obtain ⟨l1, l2, n1, n2, n3⟩ := x
  obtain ⟨⟨A1, c1⟩, ⟨A2, c2⟩, u1, u2, u3⟩ := y
  obtain ⟨h1, h2, h3, h4, h5⟩ := hok
  exact rA (rframe_x bw A1 c1 l1 (Nat.le_trans h1.1 h1.2) A2 c2 l2 (Nat.le_trans h2.1 h2.2) n1 h3 n2 h4 n3 h5) (by simp only [Cod.enc, hY, List.append_assoc]) rfl
theorem zC {w0 : World} (bw : Nat) (x0 : Int) (hx0 : dO x0) (x1 : Int) (hx1 : dO x1) (Ax2 : Option Addr) (cx2 : Nat) (x2 : List Int) (hx2 : x2.length ≤ 9223372036854775807) (x3 : Bool) (Ax4 : Option Addr) (cx4 : Nat) (x4 : List Int) (hx4 : x4.length ≤ 9223372036854775807) (x5 : Bool) (x6 : Int) (hx6 : dO x6) : Wf Tryz.prog w0 [Sl (.slice Ax2 x2.length cx2) x2, Sl (.slice Ax4 x4.length cx4) x4] 83 [.pointer (some ⟨bw, 0, none⟩), .agg #[.int .i64 x0, .int .i64 x1, .slice Ax2 x2.length cx2, .bool x3, .slice Ax4 x4.length cx4, .bool x5, .int .i64 x6]] bw (dA x0 ++ (dA x1 ++ (hY x2 ++ (iI x3 ++ (hY x4 ++ (iI x5 ++ (dA x6))))))) := by
  intro H R K bs v hsub hb hk
  have hb0 := hb
  clear hb
  have hS0 : Sl (.slice Ax2 x2.length cx2) x2 ∈ R := hsub _ dB
  have hS1 : Sl (.slice Ax4 x4.length cx4) x4 ∈ R := hsub _ dB
  clear hsub
  refine bV Tryz.func83 rfl Tryz.ntmps83 fI ?_
  apply aF; apply aA
  repeat' ((refine bJ rfl rfl ?_; ((refine dX cW (fun b => ?_))); refine aB ?_))
  revert b
  intro bx
  apply aH; apply aD
  refine fO 0 rfl ?_
  refine jB tH ?_
  repeat' (first | (apply aF) | (apply aA) | (apply aP; exact rfl; ((refine aQ rfl cL rfl ?_)); refine aB ?_) | (refine aE rfl rfl ?_; ((first | refine aG ?_ | refine aC rfl ?_)); refine aB ?_))
  refine fJ rfl rfl (dH bw x0 hx0) (fun _ h => (by cases h)) rfl rfl (dM hb0) (fun bs1 v1 h1 => ?_)
  refine aB ?_
  have hb1 := dL h1 hb0
  repeat' (first | (apply aF) | (apply aA) | (apply aH) | (apply aD) | (apply aP; exact rfl; ((refine aQ rfl cL rfl ?_)); refine aB ?_) | (refine aE rfl rfl ?_; ((first | refine aG ?_ | refine aC rfl ?_)); refine aB ?_))
  refine fJ rfl rfl (dH bw x1 hx1) (fun _ h => (by cases h)) rfl rfl (dM hb1) (fun bs2 v2 h2 => ?_)
  refine aB ?_
  have hb2 := dL h2 hb1
  repeat' (first | (apply aF) | (apply aA) | (apply aH) | (apply aD) | (apply aP; exact rfl; ((refine aQ rfl cL rfl ?_)); refine aB ?_) | (refine aE rfl rfl ?_; ((first | refine aG ?_ | refine aC rfl ?_)); refine aB ?_))
  refine fJ rfl rfl (kQ bw Ax2 cx2 x2 hx2) (bT aX (fun _ h => (by cases h))) rfl rfl (dM hb2) (fun bs3 v3 h3 => ?_)
  refine aB ?_
  have hb3 := dL h3 hb2
  repeat' (first | (apply aF) | (apply aA) | (apply aH) | (apply aD) | (apply aP; exact rfl; ((refine aQ rfl cL rfl ?_)); refine aB ?_) | (refine aE rfl rfl ?_; ((first | refine aG ?_ | refine aC rfl ?_)); refine aB ?_))
  refine fJ rfl rfl (oL bw x3) (fun _ h => (by cases h)) rfl rfl (dM hb3) (fun bs4 v4 h4 => ?_)
  refine aB ?_
  have hb4 := dL h4 hb3
  repeat' (first | (apply aF) | (apply aA) | (apply aH) | (apply aD) | (apply aP; exact rfl; ((refine aQ rfl cL rfl ?_)); refine aB ?_) | (refine aE rfl rfl ?_; ((first | refine aG ?_ | refine aC rfl ?_)); refine aB ?_))
  refine fJ rfl rfl (kQ bw Ax4 cx4 x4 hx4) (bT aX (fun _ h => (by cases h))) rfl rfl (dM hb4) (fun bs5 v5 h5 => ?_)
  refine aB ?_
  have hb5 := dL h5 hb4
  repeat' (first | (apply aF) | (apply aA) | (apply aH) | (apply aD) | (apply aP; exact rfl; ((refine aQ rfl cL rfl ?_)); refine aB ?_) | (refine aE rfl rfl ?_; ((first | refine aG ?_ | refine aC rfl ?_)); refine aB ?_))
  refine fJ rfl rfl (oL bw x5) (fun _ h => (by cases h)) rfl rfl (dM hb5) (fun bs6 v6 h6 => ?_)
  refine aB ?_
  have hb6 := dL h6 hb5
  repeat' (first | (apply aA) | (apply aH) | (apply aD) | (apply aP; exact rfl; ((refine aQ rfl cL rfl ?_)); refine aB ?_) | (refine aE rfl rfl ?_; ((first | refine aG ?_ | refine aC rfl ?_)); refine aB ?_))
  refine fJ rfl rfl (dH bw x6 hx6) (fun _ h => (by cases h)) rfl rfl hb6 (fun bs7 v7 h7 => ?_)
  refine aB ?_
  repeat' ((apply aH))
  exact aZ (.inr rfl) (gQ rfl) (cA (.row v7 5 1 bs7.length (bC bs7) :: .blk bw [v7] 90 :: H) R dV (hk bs7 v7 (h1.trans (h2.trans (h3.trans (h4.trans (h5.trans (h6.trans h7))))))))
theorem yV {w0 : World} (bw : Nat) (x : pP) (y : Unp.Y pP) (hok : Unp.ok x y) : Wf Tryz.prog w0 (Unp.fs x y) 83 [.pointer (some ⟨bw, 0, none⟩), .agg (Unp.cs x y).toArray] bw (Cod.enc x) := by
  obtain ⟨n1, n2, l1, b1, l2, b2, n3⟩ := x
  obtain ⟨u1, u2, ⟨A1, c1⟩, u3, ⟨A2, c2⟩, u4, u5⟩ := y
  obtain ⟨h1, h2, h3, _, h4, _, h5⟩ := hok
  exact rA (zC bw n1 h1 n2 h2 A1 c1 l1 (Nat.le_trans h3.1 h3.2) b1 A2 c2 l2 (Nat.le_trans h4.1 h4.2) b2 n3 h5) (by simp only [Cod.enc, hY, List.append_assoc]) rfl
theorem rscope_x {w0 : World} (bw : Nat) (x0 : Int) (hx0 : dO x0) (x1 : Int) (hx1 : dO x1) (x2 : Int) (hx2 : dO x2) (x3 : Int) (hx3 : dO x3) (Ax4 : Option Addr) (cx4 : Nat) (x4 : List Tm) (hx4 : x4.length ≤ 9223372036854775807) (x5 : ByteArray) (hx5 : x5.size ≤ 9223372036854775807) (Ax6 : Option Addr) (cx6 : Nat) (x6 : List Tm) (hx6 : x6.length ≤ 9223372036854775807) : Wf Tryz.prog w0 [Sl (.slice Ax4 x4.length cx4) x4, Sl (.slice Ax6 x6.length cx6) x6] 84 [.pointer (some ⟨bw, 0, none⟩), .agg #[.int .i64 x0, .int .i64 x1, .int .i64 x2, .int .i64 x3, .slice Ax4 x4.length cx4, .string x5, .slice Ax6 x6.length cx6]] bw (dA x0 ++ (dA x1 ++ (dA x2 ++ (dA x3 ++ ((dA x4.length ++ x4.flatMap Tm.enc) ++ (iU x5 ++ ((dA x6.length ++ x6.flatMap Tm.enc)))))))) := by
  intro H R K bs v hsub hb hk
  have hb0 := hb
  clear hb
  have hS0 : Sl (.slice Ax4 x4.length cx4) x4 ∈ R := hsub _ dB
  have hS1 : Sl (.slice Ax6 x6.length cx6) x6 ∈ R := hsub _ dB
  clear hsub
  refine bV Tryz.func84 rfl Tryz.ntmps84 fI ?_
  apply aF; apply aA
  repeat' ((refine bJ rfl rfl ?_; ((refine dX cW (fun b => ?_))); refine aB ?_))
  revert b
  intro bx
  apply aH; apply aD
  refine fO 0 rfl ?_
  refine jB tH ?_
  repeat' (first | (apply aF) | (apply aA) | (apply aP; exact rfl; ((refine aQ rfl cL rfl ?_)); refine aB ?_) | (refine aE rfl rfl ?_; ((first | refine aG ?_ | refine aC rfl ?_)); refine aB ?_))
  refine fJ rfl rfl (dH bw x0 hx0) (fun _ h => (by cases h)) rfl rfl (dM hb0) (fun bs1 v1 h1 => ?_)
  refine aB ?_
  have hb1 := dL h1 hb0
  repeat' (first | (apply aF) | (apply aA) | (apply aH) | (apply aD) | (apply aP; exact rfl; ((refine aQ rfl cL rfl ?_)); refine aB ?_) | (refine aE rfl rfl ?_; ((first | refine aG ?_ | refine aC rfl ?_)); refine aB ?_))
  refine fJ rfl rfl (dH bw x1 hx1) (fun _ h => (by cases h)) rfl rfl (dM hb1) (fun bs2 v2 h2 => ?_)
  refine aB ?_
  have hb2 := dL h2 hb1
  repeat' (first | (apply aF) | (apply aA) | (apply aH) | (apply aD) | (apply aP; exact rfl; ((refine aQ rfl cL rfl ?_)); refine aB ?_) | (refine aE rfl rfl ?_; ((first | refine aG ?_ | refine aC rfl ?_)); refine aB ?_))
  refine fJ rfl rfl (dH bw x2 hx2) (fun _ h => (by cases h)) rfl rfl (dM hb2) (fun bs3 v3 h3 => ?_)
  refine aB ?_
  have hb3 := dL h3 hb2
  repeat' (first | (apply aF) | (apply aA) | (apply aH) | (apply aD) | (apply aP; exact rfl; ((refine aQ rfl cL rfl ?_)); refine aB ?_) | (refine aE rfl rfl ?_; ((first | refine aG ?_ | refine aC rfl ?_)); refine aB ?_))
  refine fJ rfl rfl (dH bw x3 hx3) (fun _ h => (by cases h)) rfl rfl (dM hb3) (fun bs4 v4 h4 => ?_)
  refine aB ?_
  have hb4 := dL h4 hb3
  repeat' (first | (apply aF) | (apply aA) | (apply aH) | (apply aD) | (apply aP; exact rfl; ((refine aQ rfl cL rfl ?_)); refine aB ?_) | (refine aE rfl rfl ?_; ((first | refine aG ?_ | refine aC rfl ?_)); refine aB ?_))
  refine fJ rfl rfl (oJ bw Ax4 cx4 x4 hx4) (bT aX (fun _ h => (by cases h))) rfl rfl (dM hb4) (fun bs5 v5 h5 => ?_)
  refine aB ?_
  have hb5 := dL h5 hb4
  repeat' (first | (refine aP rfl ?_; refine aQ (o := 0) (q := 5) rfl aX rfl ?_; refine aB ?_) | (apply aF) | (apply aA) | (apply aH) | (apply aD) | (refine aE rfl rfl ?_; ((first | refine aG ?_ | refine aC rfl ?_)); refine aB ?_))
  refine fJ rfl rfl (vJ bw x5) (fun _ h => (by cases h)) rfl rfl (dM hb5) (fun bs6 v6 h6 => ?_)
  refine aB ?_
  have hb6 := dL h6 hb5
  repeat' (first | (refine aP rfl ?_; refine aQ (o := 0) (q := 6) rfl aX rfl ?_; refine aB ?_) | (apply aA) | (apply aH) | (apply aD) | (refine aE rfl rfl ?_; ((first | refine aG ?_ | refine aC rfl ?_)); refine aB ?_))
  refine fJ rfl rfl (oJ bw Ax6 cx6 x6 hx6) (bT aX (fun _ h => (by cases h))) rfl rfl hb6 (fun bs7 v7 h7 => ?_)
  refine aB ?_
  repeat' ((apply aH))
  exact aZ (.inr rfl) (gQ rfl) (cA (.row v7 5 1 bs7.length (bC bs7) :: .blk bw [v7] 90 :: H) R dV (hk bs7 v7 (h1.trans (h2.trans (h3.trans (h4.trans (h5.trans (h6.trans h7))))))))
theorem rscope_w {w0 : World} (bw : Nat) (x : pR) (y : Unp.Y pR) (hok : Unp.ok x y) : Wf Tryz.prog w0 (Unp.fs x y) 84 [.pointer (some ⟨bw, 0, none⟩), .agg (Unp.cs x y).toArray] bw (Cod.enc x) := by
  obtain ⟨n1, n2, n3, n4, l1, nm, l2⟩ := x
  obtain ⟨u1, u2, u3, u4, ⟨A1, c1⟩, u5, ⟨A2, c2⟩⟩ := y
  obtain ⟨h1, h2, h3, h4, h5, h6, h7⟩ := hok
  exact rA (rscope_x bw n1 h1 n2 h2 n3 h3 n4 h4 A1 c1 l1 (Nat.le_trans h5.1 h5.2) nm h6 A2 c2 l2 (Nat.le_trans h7.1 h7.2)) (by simp only [Cod.enc, hY, List.append_assoc]) rfl
theorem rval_x {w0 : World} (bw : Nat) (x0 : Int) (hx0 : dO x0) (x1 : ByteArray) (hx1 : x1.size ≤ 9223372036854775807) (Ax2 : Option Addr) (cx2 : Nat) (x2 : List Tp) (hx2 : x2.length ≤ 9223372036854775807) (x3 : Bool) (x4 : Int) (hx4 : dO x4) (x5 : Int) (hx5 : dO x5) (x6 : ByteArray) (hx6 : x6.size ≤ 9223372036854775807) (Ax7 : Option Addr) (cx7 : Nat) (x7 : List Tm) (hx7 : x7.length ≤ 9223372036854775807) : Wf Tryz.prog w0 [Sl (.slice Ax2 x2.length cx2) x2, Sl (.slice Ax7 x7.length cx7) x7] 85 [.pointer (some ⟨bw, 0, none⟩), .agg #[.int .i64 x0, .string x1, .slice Ax2 x2.length cx2, .bool x3, .int .i64 x4, .int .i64 x5, .string x6, .slice Ax7 x7.length cx7]] bw (dA x0 ++ (Tp.enc (.mk x1 x2) ++ (iI x3 ++ (Tm.enc (.mk x4 x5 x6 x7))))) := by
  intro H R K bs v hsub hb hk
  have hb0 := hb
  clear hb
  have hS0 : Sl (.slice Ax2 x2.length cx2) x2 ∈ R := hsub _ dB
  have hS1 : Sl (.slice Ax7 x7.length cx7) x7 ∈ R := hsub _ dB
  clear hsub
  refine bV Tryz.func85 rfl Tryz.ntmps85 fI ?_
  apply aF; apply aA
  repeat' ((refine bJ rfl rfl ?_; ((refine dX cW (fun b => ?_))); refine aB ?_))
  revert b
  intro bx
  apply aH; apply aD
  refine fO 0 rfl ?_
  refine jB tH ?_
  repeat' (first | (apply aF) | (apply aA) | (apply aP; exact rfl; ((refine aQ rfl cL rfl ?_)); refine aB ?_) | (refine aE rfl rfl ?_; ((first | refine aG ?_ | refine aC rfl ?_)); refine aB ?_))
  refine fJ rfl rfl (dH bw x0 hx0) (fun _ h => (by cases h)) rfl rfl (dM hb0) (fun bs1 v1 h1 => ?_)
  refine aB ?_
  have hb1 := dL h1 hb0
  repeat' (first | (apply aF) | (apply aA) | (apply aH) | (apply aD) | (apply aP; exact rfl; ((refine aQ rfl cL rfl ?_)); refine aB ?_) | (refine aE rfl rfl ?_; ((first | refine aG ?_ | refine aC rfl ?_)); refine aB ?_))
  refine fJ rfl rfl (rtyp_w bw (.mk x1 x2) (Ax2, cx2) ⟨hx1, hx2⟩) (bT aX (fun _ h => (by cases h))) rfl rfl (dM hb1) (fun bs2 v2 h2 => ?_)
  refine aB ?_
  have hb2 := dL h2 hb1
  repeat' (first | (apply aF) | (apply aA) | (apply aH) | (apply aD) | (apply aP; exact rfl; ((refine aQ rfl cL rfl ?_)); refine aB ?_) | (refine aE rfl rfl ?_; ((first | refine aG ?_ | refine aC rfl ?_)); refine aB ?_))
  refine fJ rfl rfl (oL bw x3) (fun _ h => (by cases h)) rfl rfl (dM hb2) (fun bs3 v3 h3 => ?_)
  refine aB ?_
  have hb3 := dL h3 hb2
  repeat' (first | (apply aA) | (apply aH) | (apply aD) | (apply aP; exact rfl; ((refine aQ rfl cL rfl ?_)); refine aB ?_) | (refine aE rfl rfl ?_; ((first | refine aG ?_ | refine aC rfl ?_)); refine aB ?_))
  refine fJ rfl rfl (e7 bw (.mk x4 x5 x6 x7) (Ax7, cx7) ⟨hx4, hx5, hx6, hx7⟩) (bT aX (fun _ h => (by cases h))) rfl rfl hb3 (fun bs4 v4 h4 => ?_)
  refine aB ?_
  repeat' ((apply aH))
  exact aZ (.inr rfl) (gQ rfl) (cA (.row v4 5 1 bs4.length (bC bs4) :: .blk bw [v4] 90 :: H) R dV (hk bs4 v4 (h1.trans (h2.trans (h3.trans h4)))))
theorem rval_w {w0 : World} (bw : Nat) (x : mU) (y : Unp.Y mU) (hok : Unp.ok x y) : Wf Tryz.prog w0 (Unp.fs x y) 85 [.pointer (some ⟨bw, 0, none⟩), .agg (Unp.cs x y).toArray] bw (Cod.enc x) := by
  obtain ⟨n1, ⟨tn, tx⟩, bo, ⟨k, i, kn, kx⟩⟩ := x
  obtain ⟨u1, ⟨A1, c1⟩, u3, ⟨A2, c2⟩⟩ := y
  obtain ⟨h1, ⟨h2, h3⟩, _, h4, h5, h6, h7⟩ := hok
  exact rA (rval_x bw n1 h1 tn h2 A1 c1 tx h3 bo k h4 i h5 kn h6 A2 c2 kx h7) (by simp only [Cod.enc, hY, List.append_assoc]) rfl
end Go.Proofs.YtggdljhmbckpmaaGreat
namespace Go.Proofs.YtggdljhmbckpmaaGreat
open Go Go.RowKit
set_option maxRecDepth 100000
set_option maxHeartbeats 3200000

theorem m9 {w0 : World} (bw : Nat) (x0 : Int) (hx0 : dO x0) (Ax1 : Option Addr) (cx1 : Nat) (x1 : List sQ) (hx1 : x1.length ≤ 9223372036854775807) (Ax2 : Option Addr) (cx2 : Nat) (x2 : List Tm) (hx2 : x2.length ≤ 9223372036854775807) (x3 : Int) (hx3 : dO x3) (x4 : Int) (hx4 : dO x4) (x5 : Int) (hx5 : dO x5) (x6 : Int) (hx6 : dO x6) (x7 : Int) (hx7 : dO x7) (x8 : Int) (hx8 : dO x8) (x9 : Int) (hx9 : dO x9) (x10 : Bool) (Ax11 : Option Addr) (cx11 : Nat) (x11 : List Int) (hx11 : x11.length ≤ 9223372036854775807) (Ax12 : Option Addr) (cx12 : Nat) (x12 : List Int) (hx12 : x12.length ≤ 9223372036854775807) (x13 : Int) (hx13 : dO x13) (x14 : Int) (hx14 : dO x14) (x15 : Int) (hx15 : dO x15) (x16 : Int) (hx16 : dO x16) (x17 : Int) (hx17 : dO x17) : Wf Tryz.prog w0 [Sl (.slice Ax1 x1.length cx1) x1, Sl (.slice Ax2 x2.length cx2) x2, Sl (.slice Ax11 x11.length cx11) x11, Sl (.slice Ax12 x12.length cx12) x12] 86 [.pointer (some ⟨bw, 0, none⟩), .agg #[.int .i64 x0, .slice Ax1 x1.length cx1, .slice Ax2 x2.length cx2, .int .i64 x3, .int .i64 x4, .int .i64 x5, .int .i64 x6, .int .i64 x7, .int .i64 x8, .int .i64 x9, .bool x10, .slice Ax11 x11.length cx11, .slice Ax12 x12.length cx12, .int .i64 x13, .int .i64 x14, .int .i64 x15, .int .i64 x16, .int .i64 x17]] bw (dA x0 ++ (dA x1.length ++ ((x1.flatMap Cod.enc) ++ ((dA x2.length ++ x2.flatMap Tm.enc) ++ (dA x3 ++ (dA x4 ++ (dA x5 ++ (dA x6 ++ (dA x7 ++ (dA x8 ++ (dA x9 ++ (iI x10 ++ (hY x11 ++ (hY x12 ++ (dA x13 ++ (dA x14 ++ (dA x15 ++ (dA x16 ++ (dA x17))))))))))))))))))) := by
  intro H R K bs v hsub hb hk
  have hb0 := hb
  clear hb
  have hS0 : Sl (.slice Ax1 x1.length cx1) x1 ∈ R := hsub _ dB
  have hS1 : Sl (.slice Ax2 x2.length cx2) x2 ∈ R := hsub _ dB
  have hS2 : Sl (.slice Ax11 x11.length cx11) x11 ∈ R := hsub _ dB
  have hS3 : Sl (.slice Ax12 x12.length cx12) x12 ∈ R := hsub _ dB
  clear hsub
  refine bV Tryz.func86 rfl Tryz.ntmps86 fI ?_
  apply aF; apply aA
  repeat' ((refine bJ rfl rfl ?_; ((refine dX cW (fun b => ?_))); refine aB ?_))
  revert b
  intro bx
  apply aH; apply aD
  refine fO 0 rfl ?_
  refine jB tH ?_
  repeat' (first | (apply aF) | (apply aA) | (apply aP; exact rfl; ((refine aQ rfl cL rfl ?_)); refine aB ?_) | (refine aE rfl rfl ?_; ((first | refine aG ?_ | refine aC rfl ?_)); refine aB ?_))
  refine fJ rfl rfl (dH bw x0 hx0) (fun _ h => (by cases h)) rfl rfl (dM hb0) (fun bs1 v1 h1 => ?_)
  refine aB ?_
  have hb1 := dL h1 hb0
  apply aH; apply aD
  apply aF; apply aA
  repeat' (first | (apply aP; exact rfl; ((refine aQ rfl cL rfl ?_)); refine aB ?_) | (refine aE rfl rfl ?_; ((first | refine aG ?_ | refine aC rfl ?_ | refine bS rfl ?_)); refine aB ?_))
  refine fJ rfl rfl (dH bw x1.length (by simp only [dO]; omega)) (fun _ h => (by cases h)) rfl rfl (dM hb1) (fun bs2 v2 h2 => ?_)
  refine aB ?_
  have hb2 := dL h2 hb1
  apply aH; apply aD
  refine jJ [4, 14, 15, 16, 17, 18, 19, 20, 21, 22, 23, 24, 25, 26, 27, 28, 29, 30, 31, 32, 33, 34, 35, 36, 37, 38, 39, 40, 41, 42, 43, 44, 45, 46, 47, 48, 49] (fun j H' R' => R' = (At bx 0 [.int .i64 x0, .slice Ax1 x1.length cx1, .slice Ax2 x2.length cx2, .int .i64 x3, .int .i64 x4, .int .i64 x5, .int .i64 x6, .int .i64 x7, .int .i64 x8, .int .i64 x9, .bool x10, .slice Ax11 x11.length cx11, .slice Ax12 x12.length cx12, .int .i64 x13, .int .i64 x14, .int .i64 x15, .int .i64 x16, .int .i64 x17] :: R) ∧ ∃ bs' v', H' = .row v' 5 1 bs'.length (bC bs') :: .blk bw [v'] 90 :: H ∧ Wt bs2 (x1.flatMap Cod.enc) bs') ?_ ?_
  · skip
    repeat' (first | (apply aF) | (apply aA) | (apply aV) | (apply aH) | (apply aD) | (refine aE rfl rfl ?_; ((refine aY ?_)); refine aB ?_))
    have hbl := (dM hb2)
    refine cM [4, 14, 15, 16, 17, 18, 19, 20, 21, 22, 23, 24, 25, 26, 27, 28, 29, 30, 31, 32, 33, 34, 35, 36, 37, 38, 39, 40, 41, 42, 43, 44, 45, 46, 47, 48, 49] (fun m j H2 R2 => ∃ (i : Nat) (bs' : List UInt8) (v' : Value), i + m = x1.length ∧ j 4 = .int .i64 (i : Int) ∧ (∀ p ∈ (At bx 0 [.int .i64 x0, .slice Ax1 x1.length cx1, .slice Ax2 x2.length cx2, .int .i64 x3, .int .i64 x4, .int .i64 x5, .int .i64 x6, .int .i64 x7, .int .i64 x8, .int .i64 x9, .bool x10, .slice Ax11 x11.length cx11, .slice Ax12 x12.length cx12, .int .i64 x13, .int .i64 x14, .int .i64 x15, .int .i64 x16, .int .i64 x17] :: R), p ∈ R2) ∧ H2 = .row v' 5 1 bs'.length (bC bs') :: .blk bw [v'] 90 :: H ∧ Wt bs2 ((x1.take i).flatMap Cod.enc) bs') x1.length eS ⟨0, bs2, v2, by omega, rfl, fun _ h => h, rfl, Wt.nil bs2⟩ ?_
    rintro m j' H2 R2 ⟨i, bs', v', him, hc, hR2, hH2, hW⟩
    subst hH2
    have hat2 := hR2 _ List.mem_cons_self
    have hm2 := hR2 _ (List.mem_cons_of_mem _ hS0)
    refine dD (by simp only [eF, List.foldl_cons, List.foldl_nil, List.set_cons_succ, List.set_cons_zero, hc]; rfl) ?_
    have hWl := hW.2.1
    have htl := eV (enc := Cod.enc) x1 i
    rcases Nat.lt_or_ge i x1.length with hlt | hge
    · rcases Nat.lt_or_ge 250000 bs'.length with hf | hf
      · have hW := (hW.over (o2 := (x1.drop i).flatMap Cod.enc) hf).eq (gD x1 i)
        repeat' (first | (refine dK rfl ?_; refine aT fA ?_; refine kW bw bs' v' hf aO ?_; refine aB ?_) | (apply aF) | (apply aA) | (apply cG) | (apply aJ; exact rfl) | (apply aH) | (apply aD) | (apply aW) | (apply aS) | (apply aP; exact rfl; ((refine aQ rfl cL rfl ?_)); refine aB ?_) | (apply aU; exact rfl; ((refine bQ rfl rfl (fun h => ?_) (fun h => ?_))) <;> (first | (exfalso; omega) | refine aB ?_)) | (refine aE rfl rfl ?_; ((first | refine aG ?_ | refine bX rfl eR ?_ | refine aC rfl ?_ | refine bS rfl ?_ | refine dJ rfl ?_)); refine aB ?_))
        exact fQ (.row v' 5 1 bs'.length (bC bs') :: .blk bw [v'] 90 :: H) (At bx 0 [.int .i64 x0, .slice Ax1 x1.length cx1, .slice Ax2 x2.length cx2, .int .i64 x3, .int .i64 x4, .int .i64 x5, .int .i64 x6, .int .i64 x7, .int .i64 x8, .int .i64 x9, .bool x10, .slice Ax11 x11.length cx11, .slice Ax12 x12.length cx12, .int .i64 x13, .int .i64 x14, .int .i64 x15, .int .i64 x16, .int .i64 x17] :: R) eS ⟨rfl, bs', v', rfl, hW⟩ (fun w hs => hs.weaken eB hR2)
      · have ht := jM (enc := Cod.enc) x1 i hlt
        obtain ⟨⟨t1, t2, t3⟩, hte⟩ : ∃ tt, x1[i] = tt := ⟨_, rfl⟩
        have htt : x1[((i : Nat) : Int).toNat]? = some (t1, t2, t3) := by rw [Int.toNat_natCast, List.getElem?_eq_getElem hlt, hte]
        have henc : dA t1 ++ (dA t2 ++ dA t3) = Cod.enc (α := sQ) x1[i] := by rw [hte]; rfl
        have hel : (dA t1).length + ((dA t2).length + (dA t3).length) = (Cod.enc (α := sQ) x1[i]).length := by rw [← henc, List.length_append, List.length_append]
        have hle := eV (enc := Cod.enc) x1 (i + 1)
        rw [ht, List.length_append] at hle
        repeat' (first | (refine dK rfl ?_; refine aT fA ?_; refine kV bw bs' v' hf ?_; refine aB ?_) | (refine gZ rfl ?_; refine dZ (xs := x1) rfl rfl aX rfl (d := (t1, t2, t3)) htt aO (fun b_ o y hy => ?_); refine aB ?_) | (apply aF) | (apply aA) | (apply aV) | (apply bF) | (apply aK; exact rfl) | (apply aH) | (apply aD) | (apply aP; exact rfl; ((refine aQ rfl cL rfl ?_)); refine aB ?_) | (apply aU; exact rfl; ((refine bQ rfl rfl (fun h => ?_) (fun h => ?_))) <;> (first | (exfalso; omega) | refine aB ?_)) | (refine aE rfl rfl ?_; ((first | refine aG ?_ | refine bX rfl eR ?_ | refine aC rfl ?_ | refine bS rfl ?_ | refine dJ rfl ?_)); refine aB ?_))
        refine fJ rfl rfl (dH bw t1 hy.1) (fun _ h => (by cases h)) rfl rfl aO (fun bs32 v32 h32 => ?_)
        refine aB ?_
        have h32l := h32.2.1
        refine eU (.row v32 5 1 bs32.length (bC bs32) :: .blk bw [v32] 90 :: H) R2 (fun w hs => hs.weaken (List.Sublist.refl _) (fun p hp => List.Mem.tail _ hp)) ?_
        repeat' (first | (refine gZ rfl ?_; refine dZ (xs := x1) rfl rfl aX rfl (d := (t1, t2, t3)) htt aO (fun b_ o y hy => ?_); refine aB ?_) | (apply aF) | (apply aA) | (apply aH) | (apply aD) | (apply aP; exact rfl; ((refine aQ rfl cL rfl ?_)); refine aB ?_) | (refine aE rfl rfl ?_; ((first | refine aG ?_ | refine aC rfl ?_)); refine aB ?_))
        refine fJ rfl rfl (dH bw t2 hy.2.1) (fun _ h => (by cases h)) rfl rfl aO (fun bs33 v33 h33 => ?_)
        refine aB ?_
        have h33l := h33.2.1
        refine eU (.row v33 5 1 bs33.length (bC bs33) :: .blk bw [v33] 90 :: H) R2 (fun w hs => hs.weaken (List.Sublist.refl _) (fun p hp => List.Mem.tail _ hp)) ?_
        repeat' (first | (refine gZ rfl ?_; refine dZ (xs := x1) rfl rfl aX rfl (d := (t1, t2, t3)) htt aO (fun b_ o y hy => ?_); refine aB ?_) | (apply aA) | (apply aH) | (apply aD) | (apply aP; exact rfl; ((refine aQ rfl cL rfl ?_)); refine aB ?_) | (refine aE rfl rfl ?_; ((first | refine aG ?_ | refine aC rfl ?_)); refine aB ?_))
        refine fJ rfl rfl (dH bw t3 hy.2.2) (fun _ h => (by cases h)) rfl rfl aO (fun bs34 v34 h34 => ?_)
        refine aB ?_
        have h34l := h34.2.1
        refine eU (.row v34 5 1 bs34.length (bC bs34) :: .blk bw [v34] 90 :: H) R2 (fun w hs => hs.weaken (List.Sublist.refl _) (fun p hp => List.Mem.tail _ hp)) ?_
        repeat' (first | (apply aA) | (apply aH) | (apply aD) | (apply bU) | (apply aU; exact rfl; ((refine bM rfl rfl aO aO ?_)); refine aB ?_) | (refine aE rfl rfl ?_; ((first | refine aG ?_ | refine aY ?_)); refine aB ?_))
        exact cJ (m - 1) (.row v34 5 1 bs34.length (bC bs34) :: .blk bw [v34] 90 :: H) (At bx 0 [.int .i64 x0, .slice Ax1 x1.length cx1, .slice Ax2 x2.length cx2, .int .i64 x3, .int .i64 x4, .int .i64 x5, .int .i64 x6, .int .i64 x7, .int .i64 x8, .int .i64 x9, .bool x10, .slice Ax11 x11.length cx11, .slice Ax12 x12.length cx12, .int .i64 x13, .int .i64 x14, .int .i64 x15, .int .i64 x16, .int .i64 x17] :: R) aO eS ⟨i + 1, bs34, v34, by omega, rfl, fun _ h => h, rfl, by rw [ht]; exact hW.trans ((h32.trans (h33.trans h34)).eq henc)⟩ (fun w hs => hs.weaken eB hR2)
    · rw [List.take_of_length_le hge] at hW
      repeat' (first | (apply aF) | (apply aA) | (apply cG) | (apply aJ; exact rfl) | (apply aH) | (apply aD) | (apply aW) | (apply aS) | (apply aP; exact rfl; ((refine aQ rfl cL rfl ?_)); refine aB ?_) | (apply aU; exact rfl; ((refine bQ rfl rfl (fun h => ?_) (fun h => ?_))) <;> (first | (exfalso; omega) | refine aB ?_)) | (refine aE rfl rfl ?_; ((first | refine aG ?_ | refine cH rfl eR ?_ | refine aC rfl ?_ | refine bS rfl ?_)); refine aB ?_) | (refine cX rfl ?_; refine aB ?_))
      exact fQ (.row v' 5 1 bs'.length (bC bs') :: .blk bw [v'] 90 :: H) (At bx 0 [.int .i64 x0, .slice Ax1 x1.length cx1, .slice Ax2 x2.length cx2, .int .i64 x3, .int .i64 x4, .int .i64 x5, .int .i64 x6, .int .i64 x7, .int .i64 x8, .int .i64 x9, .bool x10, .slice Ax11 x11.length cx11, .slice Ax12 x12.length cx12, .int .i64 x13, .int .i64 x14, .int .i64 x15, .int .i64 x16, .int .i64 x17] :: R) eS ⟨rfl, bs', v', rfl, hW⟩ (fun w hs => hs.weaken eB hR2)
  rintro jj2 H' R' ⟨hRR, bs3, v3, hHH, h3⟩
  subst hRR hHH
  refine dD (by simp only [eF, List.foldl_cons, List.foldl_nil, List.set_cons_succ, List.set_cons_zero]; rfl) ?_
  have hb3 := dL h3 hb2
  repeat' (first | (apply aF) | (apply aA) | (apply aP; exact rfl; ((refine aQ rfl cL rfl ?_)); refine aB ?_) | (refine aE rfl rfl ?_; ((first | refine aG ?_ | refine aC rfl ?_)); refine aB ?_))
  refine fJ rfl rfl (oJ bw Ax2 cx2 x2 hx2) (bT aX (fun _ h => (by cases h))) rfl rfl (dM hb3) (fun bs4 v4 h4 => ?_)
  refine aB ?_
  have hb4 := dL h4 hb3
  repeat' (first | (apply aF) | (apply aA) | (apply aH) | (apply aD) | (apply aP; exact rfl; ((refine aQ rfl cL rfl ?_)); refine aB ?_) | (refine aE rfl rfl ?_; ((first | refine aG ?_ | refine aC rfl ?_)); refine aB ?_))
  refine fJ rfl rfl (dH bw x3 hx3) (fun _ h => (by cases h)) rfl rfl (dM hb4) (fun bs5 v5 h5 => ?_)
  refine aB ?_
  have hb5 := dL h5 hb4
  repeat' (first | (apply aF) | (apply aA) | (apply aH) | (apply aD) | (apply aP; exact rfl; ((refine aQ rfl cL rfl ?_)); refine aB ?_) | (refine aE rfl rfl ?_; ((first | refine aG ?_ | refine aC rfl ?_)); refine aB ?_))
  refine fJ rfl rfl (dH bw x4 hx4) (fun _ h => (by cases h)) rfl rfl (dM hb5) (fun bs6 v6 h6 => ?_)
  refine aB ?_
  have hb6 := dL h6 hb5
  repeat' (first | (apply aF) | (apply aA) | (apply aH) | (apply aD) | (apply aP; exact rfl; ((refine aQ rfl cL rfl ?_)); refine aB ?_) | (refine aE rfl rfl ?_; ((first | refine aG ?_ | refine aC rfl ?_)); refine aB ?_))
  refine fJ rfl rfl (dH bw x5 hx5) (fun _ h => (by cases h)) rfl rfl (dM hb6) (fun bs7 v7 h7 => ?_)
  refine aB ?_
  have hb7 := dL h7 hb6
  repeat' (first | (apply aF) | (apply aA) | (apply aH) | (apply aD) | (apply aP; exact rfl; ((refine aQ rfl cL rfl ?_)); refine aB ?_) | (refine aE rfl rfl ?_; ((first | refine aG ?_ | refine aC rfl ?_)); refine aB ?_))
  refine fJ rfl rfl (dH bw x6 hx6) (fun _ h => (by cases h)) rfl rfl (dM hb7) (fun bs8 v8 h8 => ?_)
  refine aB ?_
  have hb8 := dL h8 hb7
  repeat' (first | (apply aF) | (apply aA) | (apply aH) | (apply aD) | (apply aP; exact rfl; ((refine aQ rfl cL rfl ?_)); refine aB ?_) | (refine aE rfl rfl ?_; ((first | refine aG ?_ | refine aC rfl ?_)); refine aB ?_))
  refine fJ rfl rfl (dH bw x7 hx7) (fun _ h => (by cases h)) rfl rfl (dM hb8) (fun bs9 v9 h9 => ?_)
  refine aB ?_
  have hb9 := dL h9 hb8
  repeat' (first | (apply aF) | (apply aA) | (apply aH) | (apply aD) | (apply aP; exact rfl; ((refine aQ rfl cL rfl ?_)); refine aB ?_) | (refine aE rfl rfl ?_; ((first | refine aG ?_ | refine aC rfl ?_)); refine aB ?_))
  refine fJ rfl rfl (dH bw x8 hx8) (fun _ h => (by cases h)) rfl rfl (dM hb9) (fun bs10 v10 h10 => ?_)
  refine aB ?_
  have hb10 := dL h10 hb9
  repeat' (first | (apply aF) | (apply aA) | (apply aH) | (apply aD) | (apply aP; exact rfl; ((refine aQ rfl cL rfl ?_)); refine aB ?_) | (refine aE rfl rfl ?_; ((first | refine aG ?_ | refine aC rfl ?_)); refine aB ?_))
  refine fJ rfl rfl (dH bw x9 hx9) (fun _ h => (by cases h)) rfl rfl (dM hb10) (fun bs11 v11 h11 => ?_)
  refine aB ?_
  have hb11 := dL h11 hb10
  repeat' (first | (apply aF) | (apply aA) | (apply aH) | (apply aD) | (apply aP; exact rfl; ((refine aQ rfl cL rfl ?_)); refine aB ?_) | (refine aE rfl rfl ?_; ((first | refine aG ?_ | refine aC rfl ?_)); refine aB ?_))
  refine fJ rfl rfl (oL bw x10) (fun _ h => (by cases h)) rfl rfl (dM hb11) (fun bs12 v12 h12 => ?_)
  refine aB ?_
  have hb12 := dL h12 hb11
  repeat' (first | (apply aF) | (apply aA) | (apply aH) | (apply aD) | (apply aP; exact rfl; ((refine aQ rfl cL rfl ?_)); refine aB ?_) | (refine aE rfl rfl ?_; ((first | refine aG ?_ | refine aC rfl ?_)); refine aB ?_))
  refine fJ rfl rfl (kQ bw Ax11 cx11 x11 hx11) (bT aX (fun _ h => (by cases h))) rfl rfl (dM hb12) (fun bs13 v13 h13 => ?_)
  refine aB ?_
  have hb13 := dL h13 hb12
  repeat' (first | (apply aF) | (apply aA) | (apply aH) | (apply aD) | (apply aP; exact rfl; ((refine aQ rfl cL rfl ?_)); refine aB ?_) | (refine aE rfl rfl ?_; ((first | refine aG ?_ | refine aC rfl ?_)); refine aB ?_))
  refine fJ rfl rfl (kQ bw Ax12 cx12 x12 hx12) (bT aX (fun _ h => (by cases h))) rfl rfl (dM hb13) (fun bs14 v14 h14 => ?_)
  refine aB ?_
  have hb14 := dL h14 hb13
  repeat' (first | (apply aF) | (apply aA) | (apply aH) | (apply aD) | (apply aP; exact rfl; ((refine aQ rfl cL rfl ?_)); refine aB ?_) | (refine aE rfl rfl ?_; ((first | refine aG ?_ | refine aC rfl ?_)); refine aB ?_))
  refine fJ rfl rfl (dH bw x13 hx13) (fun _ h => (by cases h)) rfl rfl (dM hb14) (fun bs15 v15 h15 => ?_)
  refine aB ?_
  have hb15 := dL h15 hb14
  repeat' (first | (apply aF) | (apply aA) | (apply aH) | (apply aD) | (apply aP; exact rfl; ((refine aQ rfl cL rfl ?_)); refine aB ?_) | (refine aE rfl rfl ?_; ((first | refine aG ?_ | refine aC rfl ?_)); refine aB ?_))
  refine fJ rfl rfl (dH bw x14 hx14) (fun _ h => (by cases h)) rfl rfl (dM hb15) (fun bs16 v16 h16 => ?_)
  refine aB ?_
  have hb16 := dL h16 hb15
  repeat' (first | (apply aF) | (apply aA) | (apply aH) | (apply aD) | (apply aP; exact rfl; ((refine aQ rfl cL rfl ?_)); refine aB ?_) | (refine aE rfl rfl ?_; ((first | refine aG ?_ | refine aC rfl ?_)); refine aB ?_))
  refine fJ rfl rfl (dH bw x15 hx15) (fun _ h => (by cases h)) rfl rfl (dM hb16) (fun bs17 v17 h17 => ?_)
  refine aB ?_
  have hb17 := dL h17 hb16
  repeat' (first | (apply aF) | (apply aA) | (apply aH) | (apply aD) | (apply aP; exact rfl; ((refine aQ rfl cL rfl ?_)); refine aB ?_) | (refine aE rfl rfl ?_; ((first | refine aG ?_ | refine aC rfl ?_)); refine aB ?_))
  refine fJ rfl rfl (dH bw x16 hx16) (fun _ h => (by cases h)) rfl rfl (dM hb17) (fun bs18 v18 h18 => ?_)
  refine aB ?_
  have hb18 := dL h18 hb17
  repeat' (first | (apply aA) | (apply aH) | (apply aD) | (apply aP; exact rfl; ((refine aQ rfl cL rfl ?_)); refine aB ?_) | (refine aE rfl rfl ?_; ((first | refine aG ?_ | refine aC rfl ?_)); refine aB ?_))
  refine fJ rfl rfl (dH bw x17 hx17) (fun _ h => (by cases h)) rfl rfl hb18 (fun bs19 v19 h19 => ?_)
  refine aB ?_
  repeat' ((apply aH))
  exact aZ (.inr rfl) (gQ rfl) (cA (.row v19 5 1 bs19.length (bC bs19) :: .blk bw [v19] 90 :: H) R dV (hk bs19 v19 (h1.trans (h2.trans (h3.trans (h4.trans (h5.trans (h6.trans (h7.trans (h8.trans (h9.trans (h10.trans (h11.trans (h12.trans (h13.trans (h14.trans (h15.trans (h16.trans (h17.trans (h18.trans h19))))))))))))))))))))
theorem p6 {w0 : World} (bw : Nat) (x : pL) (y : Unp.Y pL) (hok : Unp.ok x y) : Wf Tryz.prog w0 (Unp.fs x y) 86 [.pointer (some ⟨bw, 0, none⟩), .agg (Unp.cs x y).toArray] bw (Cod.enc x) := by
  obtain ⟨n1, l1, l2, n2, n3, n4, n5, n6, n7, n8, b1, l3, l4, m1, m2, m3, m4, m5⟩ := x
  obtain ⟨u1, ⟨A1, c1⟩, ⟨A2, c2⟩, u2, u3, u4, u5, u6, u7, u8, u9, ⟨A3, c3⟩, ⟨A4, c4⟩, w1, w2, w3, w4, w5⟩ := y
  obtain ⟨h1, g1, g2, h2, h3, h4, h5, h6, h7, h8, _, g3, g4, k1, k2, k3, k4, k5⟩ := hok
  exact rA (m9 bw n1 h1 A1 c1 l1 (Nat.le_trans g1.1 g1.2) A2 c2 l2 (Nat.le_trans g2.1 g2.2) n2 h2 n3 h3 n4 h4 n5 h5 n6 h6 n7 h7 n8 h8 b1 A3 c3 l3 (Nat.le_trans g3.1 g3.2) A4 c4 l4 (Nat.le_trans g4.1 g4.2) m1 k1 m2 k2 m3 k3 m4 k4 m5 k5) (by simp only [Cod.enc, hY, List.append_assoc]) rfl
end Go.Proofs.YtggdljhmbckpmaaGreat
