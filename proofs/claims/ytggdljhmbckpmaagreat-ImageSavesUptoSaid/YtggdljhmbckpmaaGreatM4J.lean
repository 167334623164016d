/- Structs written: walks, printed by gen_wr.py. Encode: walk, of any state. The reference's writer: numbers: walk. A string's bytes appended to an owned row. -/
import Derived.Test.YtggdljhmbckpmaaGreatM2J
import Derived.Test.YtggdljhmbckpmaaGreatE5J
import Derived.Test.YtggdljhmbckpmaaGreatD2
import Derived.Test.YtggdljhmbckpmaaGreatE6J
import Derived.Test.YtggdljhmbckpmaaGreatA16J
import Derived.Test.YtggdljhmbckpmaaGreatF2J
import Derived.Test.YtggdljhmbckpmaaGreatA10J
import Derived.Lib.AppendStr
set_option linter.unusedVariables false
set_option linter.unusedSimpArgs false
namespace Go.Proofs.YtggdljhmbckpmaaGreat
open Go Go.RowKit
set_option maxRecDepth 100000
set_option maxHeartbeats 1600000

theorem trail_x {w0 : World} (bw : Nat) (b2 : Nat) (n1 : Int) (hn1 : dO n1) (lv : Int) (hlv : dO lv) (tn : ByteArray) (htn : tn.size ≤ 9223372036854775807) (Atx : Option Addr) (ctx : Nat) (tx : List Tp) (htx : tx.length ≤ 9223372036854775807) (bo : Bool) (kk : Int) (hkk : dO kk) (ki : Int) (hki : dO ki) (kn : ByteArray) (hkn : kn.size ≤ 9223372036854775807) (Akx : Option Addr) (ckx : Nat) (kx : List Tm) (hkx : kx.length ≤ 9223372036854775807) : Wr Tryz.prog w0 [Sl (.slice Atx tx.length ctx) tx, Sl (.slice Akx kx.length ckx) kx, At b2 0 [.pointer (some ⟨bw, 0, none⟩)]] 78 [.agg #[.int .i64 n1, .int .i64 lv, .string tn, .slice Atx tx.length ctx, .bool bo, .int .i64 kk, .int .i64 ki, .string kn, .slice Akx kx.length ckx], .pointer (some ⟨b2, 0, none⟩)] bw (dA n1 ++ ((Cod.enc (α := mU) (lv, .mk tn tx, bo, .mk kk ki kn kx)))) := by
  intro H R K KP bs v hsub hb hk hp
  try simp only [List.length_append] at hp
  refine dE Tryz.func78 rfl Tryz.ntmps78 fI ?_
  apply aF; apply aA
  repeat' ((refine bJ rfl rfl ?_; ((refine dX cW (fun b => ?_))); refine aB ?_))
  apply aH; apply aD
  refine fO 0 rfl ?_
  refine jB tH ?_
  have hS0 : Sl (.slice Atx tx.length ctx) tx ∈ R := hsub _ dB
  have hS1 : Sl (.slice Akx kx.length ckx) kx ∈ R := hsub _ dB
  have hB : At b2 0 [.pointer (some ⟨bw, 0, none⟩)] ∈ R := hsub _ dB
  clear hsub
  repeat' (first | (apply aF) | (apply aA) | (apply aP; exact rfl; ((first | refine aQ rfl cL rfl ?_ | refine bD rfl cL rfl ?_)); refine aB ?_) | (refine aE rfl rfl ?_; ((refine aC rfl ?_)); refine aB ?_))
  refine fV rfl rfl (gH bw n1 hn1) (fun _ h => (by cases h)) rfl rfl hb (fun hle0 v0 => ?_) (fun hgt => ?_)
  rotate_left
  · skip
    repeat' ((apply aM))
    exact aR (cN H R dV (hp (by (omega))))
  refine aB ?_
  repeat' (first | (apply aA) | (apply aH) | (apply aD) | (apply aP; exact rfl; ((first | refine aQ rfl cL rfl ?_ | refine bD rfl cL rfl ?_)); refine aB ?_) | (refine aE rfl rfl ?_; ((refine aC rfl ?_)); refine aB ?_))
  refine fV rfl rfl (val_w bw (lv, .mk tn tx, bo, .mk kk ki kn kx) ((), (Atx, ctx), (), (Akx, ckx)) ⟨hlv, ⟨htn, htx⟩, trivial, hkk, hki, hkn, hkx⟩) (bT aX (bT aX (fun _ h => (by cases h)))) rfl rfl (by rw [List.length_append]; exact hle0) (fun hle1 v1 => ?_) (fun hgt => ?_)
  rotate_left
  · skip
    repeat' (fail)
    exact aR (cN H R dV (hp (by ((simp only [List.length_append] at hgt ⊢; omega)))))
  refine aB ?_
  repeat' ((apply aH))
  refine aZ (.inr rfl) (gQ rfl) (fG _ R (fun w hs => ?_) (hk (by ((simp only [List.length_append] at hle1 ⊢; omega))) v1))
  try simp only [List.append_assoc] at hs ⊢
  exact hs.weaken eB hP
theorem trail_w {w0 : World} (bw b2 : Nat) (x : nJ) (y : Unp.Y nJ) (hok : Unp.ok x y) : Wr Tryz.prog w0 (Unp.fs x y ++ [At b2 0 [.pointer (some ⟨bw, 0, none⟩)]]) 78 [.agg (Unp.cs x y).toArray, .pointer (some ⟨b2, 0, none⟩)] bw (Cod.enc x) := by
  obtain ⟨n1, lv, ⟨tn, tx⟩, bo, ⟨k, i, kn, kx⟩⟩ := x
  obtain ⟨u0, u1, ⟨A1, c1⟩, u3, ⟨A2, c2⟩⟩ := y
  obtain ⟨h0, h1, ⟨h2, h3⟩, _, h4, h5, h6, h7⟩ := hok
  exact nF (trail_x bw b2 n1 h0 lv h1 tn h2 A1 c1 tx h3 bo k h4 i h5 kn h6 A2 c2 kx h7) (by simp only [Cod.enc, hY, List.flatMap_cons, List.flatMap_nil, List.append_nil, List.append_assoc]) rfl
theorem try_x {w0 : World} (bw : Nat) (b2 : Nat) (n1 : Int) (hn1 : dO n1) (n2 : Int) (hn2 : dO n2) (n3 : Int) (hn3 : dO n3) : Wr Tryz.prog w0 [At b2 0 [.pointer (some ⟨bw, 0, none⟩)]] 128 [.agg #[.int .i64 n1, .int .i64 n2, .int .i64 n3], .pointer (some ⟨b2, 0, none⟩)] bw ([n1, n2, n3].flatMap dA) := by
  intro H R K KP bs v hsub hb hk hp
  try simp only [List.length_append] at hp
  refine dE Tryz.func128 rfl Tryz.ntmps128 fI ?_
  apply aF; apply aA
  repeat' ((refine bJ rfl rfl ?_; ((refine dX cW (fun b => ?_))); refine aB ?_))
  apply aH; apply aD
  refine fO 0 rfl ?_
  refine jB tH ?_
  have hB : At b2 0 [.pointer (some ⟨bw, 0, none⟩)] ∈ R := hsub _ dB
  clear hsub
  repeat' (first | (apply aA) | (apply aP; exact rfl; ((first | refine aQ rfl cL rfl ?_ | refine bD rfl cL rfl ?_)); refine aB ?_) | (refine aE rfl rfl ?_; ((refine aC rfl ?_)); refine aB ?_) | (refine bJ rfl rfl ?_; ((refine bK cQ fP rfl (fun b => ?_))); refine aB ?_))
  refine nX [n1, n2, n3] rfl (by intro x hx; simp only [List.mem_cons, List.not_mem_nil, or_false] at hx; rcases hx with rfl | rfl | rfl <;> assumption) dB ?_
  repeat' (fail)
  refine fV rfl rfl (kC bw (some ⟨b, 0, none⟩) 3 [n1, n2, n3] dB) (bT List.mem_cons_self (fun _ h => (by cases h))) rfl rfl hb (fun hle0 v0 => ?_) (fun hgt => ?_)
  rotate_left
  · skip
    repeat' (fail)
    exact aR (cN H R dV (hp (by (omega))))
  refine aB ?_
  repeat' ((apply aH))
  refine aZ (.inr rfl) (gQ rfl) (fG _ R (fun w hs => ?_) (hk (by (omega)) v0))
  try simp only [List.append_assoc] at hs ⊢
  exact hs.weaken eB hP
theorem try_w {w0 : World} (bw b2 : Nat) (x : sQ) (y : Unp.Y sQ) (hok : Unp.ok x y) : Wr Tryz.prog w0 (Unp.fs x y ++ [At b2 0 [.pointer (some ⟨bw, 0, none⟩)]]) 128 [.agg (Unp.cs x y).toArray, .pointer (some ⟨b2, 0, none⟩)] bw (Cod.enc x) := by
  obtain ⟨n1, n2, n3⟩ := x
  obtain ⟨h1, h2, h3⟩ := hok
  exact nF (try_x bw b2 n1 h1 n2 h2 n3 h3) (by simp only [Cod.enc, hY, List.flatMap_cons, List.flatMap_nil, List.append_nil, List.append_assoc]) rfl
theorem choice_x {w0 : World} (bw : Nat) (n1 : Int) (hn1 : dO n1) (Al1 : Option Addr) (cl1 : Nat) (l1 : List sQ) (hl1 : l1.length ≤ 9223372036854775807) (Al2 : Option Addr) (cl2 : Nat) (l2 : List Tm) (hl2 : l2.length ≤ 9223372036854775807) (n2 : Int) (hn2 : dO n2) (n3 : Int) (hn3 : dO n3) (n4 : Int) (hn4 : dO n4) (n5 : Int) (hn5 : dO n5) (n6 : Int) (hn6 : dO n6) (n7 : Int) (hn7 : dO n7) (n8 : Int) (hn8 : dO n8) (b1 : Bool) (Al3 : Option Addr) (cl3 : Nat) (l3 : List Int) (hl3 : l3.length ≤ 9223372036854775807) (Al4 : Option Addr) (cl4 : Nat) (l4 : List Int) (hl4 : l4.length ≤ 9223372036854775807) (m1 : Int) (hm1 : dO m1) (m2 : Int) (hm2 : dO m2) (m3 : Int) (hm3 : dO m3) (m4 : Int) (hm4 : dO m4) (m5 : Int) (hm5 : dO m5) : Wr Tryz.prog w0 [Sl (.slice Al1 l1.length cl1) l1, Sl (.slice Al2 l2.length cl2) l2, Sl (.slice Al3 l3.length cl3) l3, Sl (.slice Al4 l4.length cl4) l4] 81 [.pointer (some ⟨bw, 0, none⟩), .agg #[.int .i64 n1, .slice Al1 l1.length cl1, .slice Al2 l2.length cl2, .int .i64 n2, .int .i64 n3, .int .i64 n4, .int .i64 n5, .int .i64 n6, .int .i64 n7, .int .i64 n8, .bool b1, .slice Al3 l3.length cl3, .slice Al4 l4.length cl4, .int .i64 m1, .int .i64 m2, .int .i64 m3, .int .i64 m4, .int .i64 m5]] bw (dA n1 ++ ((dA l1.length ++ l1.flatMap Cod.enc) ++ ((dA l2.length ++ l2.flatMap Tm.enc) ++ ([n2, n3, n4, n5, n6, n7, n8].flatMap dA ++ (iI b1 ++ (hY l3 ++ (hY l4 ++ ([m1, m2, m3, m4, m5].flatMap dA)))))))) := by
  intro H R K KP bs v hsub hb hk hp
  try simp only [List.length_append] at hp
  refine dE Tryz.func81 rfl Tryz.ntmps81 fI ?_
  apply aF; apply aA
  repeat' ((refine bJ rfl rfl ?_; ((refine dX cW (fun b => ?_))); refine aB ?_))
  apply aH; apply aD
  rename_i b2
  refine fO 0 rfl ?_
  refine fO 0 rfl ?_
  refine jB tH ?_
  have hS0 : Sl (.slice Al1 l1.length cl1) l1 ∈ R := hsub _ dB
  have hS1 : Sl (.slice Al2 l2.length cl2) l2 ∈ R := hsub _ dB
  have hS2 : Sl (.slice Al3 l3.length cl3) l3 ∈ R := hsub _ dB
  have hS3 : Sl (.slice Al4 l4.length cl4) l4 ∈ R := hsub _ dB
  clear hsub
  repeat' (first | (apply aF) | (apply aA) | (apply aP; exact rfl; ((first | refine aQ rfl cL rfl ?_ | refine bD rfl cL rfl ?_)); refine aB ?_) | (refine aE rfl rfl ?_; ((refine aC rfl ?_)); refine aB ?_))
  refine fV rfl rfl (gH bw n1 hn1) (fun _ h => (by cases h)) rfl rfl hb (fun hle0 v0 => ?_) (fun hgt => ?_)
  rotate_left
  · skip
    repeat' ((apply aM))
    exact aR (cN H R dV (hp (by (omega))))
  refine aB ?_
  repeat' (first | (apply aF) | (apply aA) | (apply aH) | (apply aD) | (apply aP; exact rfl; ((first | refine aQ rfl cL rfl ?_ | refine bD rfl cL rfl ?_)); refine aB ?_) | (refine aE rfl rfl ?_; ((first | refine aC rfl ?_ | refine cR iE iE ?_)); refine aB ?_))
  refine fV rfl rfl (put108_w rfl UnpL.len UnpL.one bw Al1 cl1 l1 128 [] [.pointer (some ⟨b2, 0, none⟩)] Cod.enc [At b2 0 [.pointer (some ⟨bw, 0, none⟩)]] hl1 (fun x hx y hy => try_w bw b2 x y hy)) (bT aX (bT aX (fun _ h => (by cases h)))) rfl rfl (by rw [List.length_append]; exact hle0) (fun hle1 v1 => ?_) (fun hgt => ?_)
  rotate_left
  · skip
    repeat' ((apply aM))
    exact aR (cN H R dV (hp (by ((simp only [List.length_append] at hgt ⊢; omega)))))
  refine aB ?_
  repeat' (first | (apply aF) | (apply aA) | (apply aH) | (apply aD) | (apply aP; exact rfl; ((first | refine aQ rfl cL rfl ?_ | refine bD rfl cL rfl ?_)); refine aB ?_) | (refine aE rfl rfl ?_; ((first | refine aC rfl ?_ | refine cR iE iE ?_)); refine aB ?_))
  refine fV rfl rfl (mQ rfl UnpL.len UnpL.one bw Al2 cl2 l2 124 [.pointer (some ⟨bw, 0, none⟩)] [] Tm.enc [] hl2 (fun x hx y hy => by rw [List.append_nil]; exact rI bw x y hy)) (bT aX (fun _ h => (by cases h))) rfl rfl (by rw [List.length_append]; exact hle1) (fun hle2 v2 => ?_) (fun hgt => ?_)
  rotate_left
  · skip
    repeat' ((apply aM))
    exact aR (cN H R dV (hp (by ((simp only [List.length_append] at hgt ⊢; omega)))))
  refine aB ?_
  repeat' (first | (apply aF) | (apply aA) | (apply aH) | (apply aD) | (apply aP; exact rfl; ((first | refine aQ rfl cL rfl ?_ | refine bD rfl cL rfl ?_)); refine aB ?_) | (refine aE rfl rfl ?_; ((refine aC rfl ?_)); refine aB ?_) | (refine bJ rfl rfl ?_; ((refine bK cQ fP rfl (fun b => ?_))); refine aB ?_))
  refine nX [n2, n3, n4, n5, n6, n7, n8] rfl (by intro x hx; simp only [List.mem_cons, List.not_mem_nil, or_false] at hx; rcases hx with rfl | rfl | rfl | rfl | rfl | rfl | rfl <;> assumption) dB ?_
  repeat' (fail)
  refine fV rfl rfl (kC bw (some ⟨b, 0, none⟩) 7 [n2, n3, n4, n5, n6, n7, n8] dB) (bT List.mem_cons_self (fun _ h => (by cases h))) rfl rfl (by rw [List.length_append]; exact hle2) (fun hle3 v3 => ?_) (fun hgt => ?_)
  rotate_left
  · skip
    repeat' ((apply aM))
    exact aR (cN H R dV (hp (by ((simp only [List.length_append] at hgt ⊢; omega)))))
  refine aB ?_
  repeat' (first | (apply aF) | (apply aA) | (apply aH) | (apply aD) | (apply aP; exact rfl; ((first | refine aQ rfl cL rfl ?_ | refine bD rfl cL rfl ?_)); refine aB ?_) | (refine aE rfl rfl ?_; ((refine aC rfl ?_)); refine aB ?_))
  refine fV rfl rfl (qU bw b1) (fun _ h => (by cases h)) rfl rfl (by rw [List.length_append]; exact hle3) (fun hle4 v4 => ?_) (fun hgt => ?_)
  rotate_left
  · skip
    repeat' ((apply aM))
    exact aR (cN H R dV (hp (by ((simp only [List.length_append] at hgt ⊢; omega)))))
  refine aB ?_
  repeat' (first | (apply aF) | (apply aA) | (apply aH) | (apply aD) | (apply aP; exact rfl; ((first | refine aQ rfl cL rfl ?_ | refine bD rfl cL rfl ?_)); refine aB ?_) | (refine aE rfl rfl ?_; ((refine aC rfl ?_)); refine aB ?_))
  refine fV rfl rfl (rU bw Al3 cl3 l3 hl3) (bT aX (fun _ h => (by cases h))) rfl rfl (by rw [List.length_append]; exact hle4) (fun hle5 v5 => ?_) (fun hgt => ?_)
  rotate_left
  · skip
    repeat' ((apply aM))
    exact aR (cN H R dV (hp (by ((simp only [List.length_append] at hgt ⊢; omega)))))
  refine aB ?_
  repeat' (first | (apply aF) | (apply aA) | (apply aH) | (apply aD) | (apply aP; exact rfl; ((first | refine aQ rfl cL rfl ?_ | refine bD rfl cL rfl ?_)); refine aB ?_) | (refine aE rfl rfl ?_; ((refine aC rfl ?_)); refine aB ?_))
  refine fV rfl rfl (rU bw Al4 cl4 l4 hl4) (bT aX (fun _ h => (by cases h))) rfl rfl (by rw [List.length_append]; exact hle5) (fun hle6 v6 => ?_) (fun hgt => ?_)
  rotate_left
  · skip
    repeat' ((apply aM))
    exact aR (cN H R dV (hp (by ((simp only [List.length_append] at hgt ⊢; omega)))))
  refine aB ?_
  repeat' (first | (apply aA) | (apply aH) | (apply aD) | (apply aP; exact rfl; ((first | refine aQ rfl cL rfl ?_ | refine bD rfl cL rfl ?_)); refine aB ?_) | (refine aE rfl rfl ?_; ((refine aC rfl ?_)); refine aB ?_) | (refine bJ rfl rfl ?_; ((refine bK cQ fP rfl (fun b => ?_))); refine aB ?_))
  refine nX [m1, m2, m3, m4, m5] rfl (by intro x hx; simp only [List.mem_cons, List.not_mem_nil, or_false] at hx; rcases hx with rfl | rfl | rfl | rfl | rfl <;> assumption) dB ?_
  repeat' (fail)
  refine fV rfl rfl (kC bw (some ⟨b, 0, none⟩) 5 [m1, m2, m3, m4, m5] dB) (bT List.mem_cons_self (fun _ h => (by cases h))) rfl rfl (by rw [List.length_append]; exact hle6) (fun hle7 v7 => ?_) (fun hgt => ?_)
  rotate_left
  · skip
    repeat' (fail)
    exact aR (cN H R dV (hp (by ((simp only [List.length_append] at hgt ⊢; omega)))))
  refine aB ?_
  repeat' ((apply aH))
  refine aZ (.inr rfl) (gQ rfl) (fG _ R (fun w hs => ?_) (hk (by ((simp only [List.length_append] at hle7 ⊢; omega))) v7))
  try simp only [List.append_assoc] at hs ⊢
  exact hs.weaken eB hP
theorem choice_w {w0 : World} (bw : Nat) (x : pL) (y : Unp.Y pL) (hok : Unp.ok x y) : Wr Tryz.prog w0 (Unp.fs x y) 81 [.pointer (some ⟨bw, 0, none⟩), .agg (Unp.cs x y).toArray] bw (Cod.enc x) := by
  obtain ⟨n1, l1, l2, n2, n3, n4, n5, n6, n7, n8, b1, l3, l4, m1, m2, m3, m4, m5⟩ := x
  obtain ⟨u1, ⟨A1, c1⟩, ⟨A2, c2⟩, u2, u3, u4, u5, u6, u7, u8, u9, ⟨A3, c3⟩, ⟨A4, c4⟩, w1, w2, w3, w4, w5⟩ := y
  obtain ⟨h1, g1, g2, h2, h3, h4, h5, h6, h7, h8, _, g3, g4, k1, k2, k3, k4, k5⟩ := hok
  exact nF (choice_x bw n1 h1 A1 c1 l1 (Nat.le_trans g1.1 g1.2) A2 c2 l2 (Nat.le_trans g2.1 g2.2) n2 h2 n3 h3 n4 h4 n5 h5 n6 h6 n7 h7 n8 h8 b1 A3 c3 l3 (Nat.le_trans g3.1 g3.2) A4 c4 l4 (Nat.le_trans g4.1 g4.2) m1 k1 m2 k2 m3 k3 m4 k4 m5 k5) (by simp only [Cod.enc, hY, List.flatMap_cons, List.flatMap_nil, List.append_nil, List.append_assoc]) rfl
end Go.Proofs.YtggdljhmbckpmaaGreat
namespace Go.Proofs.YtggdljhmbckpmaaGreat
open Go Go.RowKit
set_option maxRecDepth 100000
set_option maxHeartbeats 1600000

theorem state_wm {w0 : World} (bw : Nat) (x : jO) (y : Unp.Y jO) (hok : Unp.ok x y) : Wr Tryz.prog w0 (Unp.fs x y) 30 [.pointer (some ⟨bw, 0, none⟩), .agg (Unp.cs x y).toArray] bw (Cod.enc x) := by
  obtain ⟨n1, n2, n3, n4, n5, n6, b1, l1, l2, lF, lB, lS, lV, lT, lC, n7⟩ := x
  obtain ⟨u1, u2, u3, u4, u5, u6, u7, ⟨A1, c1⟩, ⟨A2, c2⟩, ⟨AF, cF⟩, ⟨AB, cB⟩, ⟨AS, cS⟩, ⟨AV, cV⟩, ⟨AT, cT⟩, ⟨AC, cC⟩, u8⟩ := y
  obtain ⟨h1, h2, h3, h4, h5, h6, _, g1, g2, gF, gB, gS, gV, gT, gC, h7⟩ := hok
  exact nF (zW bw (αF := pU) (αB := pP) (αS := pR) (αV := mU) (αT := nJ) (αC := pL) n1 n2 n3 n4 n5 n6 n7 b1 (by intro x hx; simp only [List.mem_cons, List.not_mem_nil, or_false] at hx; rcases hx with rfl | rfl | rfl | rfl | rfl | rfl <;> assumption) h7 A1 c1 l1 (Nat.le_trans g1.1 g1.2) A2 c2 l2 (Nat.le_trans g2.1 g2.2)
    rfl UnpL.len UnpL.one AF cF lF (Nat.le_trans gF.1 gF.2) Cod.enc (fun x _ y hy => frame_w bw x y hy)
    rfl UnpL.len UnpL.one AB cB lB (Nat.le_trans gB.1 gB.2) Cod.enc (fun x _ y hy => t5 bw x y hy)
    rfl UnpL.len UnpL.one AS cS lS (Nat.le_trans gS.1 gS.2) Cod.enc (fun x _ y hy => scope_w bw x y hy)
    rfl UnpL.len UnpL.one AV cV lV (Nat.le_trans gV.1 gV.2) Cod.enc (fun x _ y hy => val_w bw x y hy)
    rfl UnpL.len UnpL.one AT cT lT (Nat.le_trans gT.1 gT.2) Cod.enc (fun b2 x _ y hy => trail_w bw b2 x y hy)
    rfl UnpL.len UnpL.one AC cC lC (Nat.le_trans gC.1 gC.2) Cod.enc (fun x _ y hy => choice_w bw x y hy)) (by simp only [Cod.enc, hY, List.flatMap_cons, List.flatMap_nil, List.append_nil, List.append_assoc]) rfl
/-- What Encode returns. -/
def uH (m : jO) : List UInt8 × Int := uO (Cod.enc m)
theorem encM_eq (m : jO) : uH m = if (stB m).length ≤ 250000 then (stB m, 0) else ([], 2) := by
  unfold uH uO stB headMa
  rw [List.length_append]; rfl
theorem uZ {w0 : World} {H : List Hp} {R : List MP} {K : Value → List Hp → List MP → Prop} (m : jO) (y : Unp.Y jO) (hok : Unp.ok m y) (hsub : ∀ p ∈ Unp.fs m y, p ∈ R) (k : KB K (uH m) H R) : CallsK Tryz.prog w0 7 #[.agg (Unp.cs m y).toArray] H R K :=
  xE (Unp.cs m y) (Cod.enc m) (fun bw => state_wm bw m y hok) (UnpL.len m y) hsub k
end Go.Proofs.YtggdljhmbckpmaaGreat
namespace Go.Proofs.YtggdljhmbckpmaaGreat
open Go Go.RowKit
set_option maxRecDepth 100000
set_option maxHeartbeats 3200000

/-- 'out' written behind 'bs', but for what is too much. -/
def Wt (bs out bs' : List UInt8) : Prop := bs.length ≤ bs'.length ∧ bs'.length ≤ bs.length + out.length ∧ (bs.length + out.length ≤ 250000 → bs' = bs ++ out) ∧ (250000 < bs.length + out.length → 250000 < bs'.length)
theorem Wt.all (bs out : List UInt8) : Wt bs out (bs ++ out) := ⟨by simp, by simp, fun _ => rfl, fun h => by rw [List.length_append]; exact h⟩
theorem Wt.nil (bs : List UInt8) : Wt bs [] bs := ⟨Nat.le_refl _, by simp, fun _ => by simp, fun h => by simpa using h⟩
theorem Wt.trans {bs o1 b1 o2 b2 : List UInt8} (h : Wt bs o1 b1) (k : Wt b1 o2 b2) : Wt bs (o1 ++ o2) b2 := by
  obtain ⟨h1, h2, h3, h4⟩ := h
  obtain ⟨k1, k2, k3, k4⟩ := k
  rw [Wt, List.length_append]
  refine ⟨by omega, by omega, fun hh => ?_, fun hh => ?_⟩
  · have e := h3 aO
    subst e
    rw [List.length_append] at k3
    rw [k3 aO, List.append_assoc]
  · rcases Nat.lt_or_ge 250000 (bs.length + o1.length) with g | g
    · have := h4 g; omega
    · have e := h3 g
      subst e
      rw [List.length_append] at k4
      exact k4 aO
/-- What is over is over. -/
theorem Wt.over {bs o1 o2 b1 : List UInt8} (h : Wt bs o1 b1) (hb : 250000 < b1.length) : Wt bs (o1 ++ o2) b1 := by
  obtain ⟨h1, h2, h3, h4⟩ := h
  rw [Wt, List.length_append]
  exact ⟨h1, by omega, fun hh => absurd hb aO, fun _ => hb⟩
theorem Wt.eq {bs o o' b : List UInt8} (h : Wt bs o b) (e : o = o') : Wt bs o' b := e ▸ h
/-- A call of the reference that writes. -/
def Wf (P : Program) (w0 : World) (R0 : List MP) (f : FuncId) (args : List Value) (bw : Nat) (out : List UInt8) : Prop :=
  ∀ (H : List Hp) (R : List MP) (K : Value → List Hp → List MP → Prop) (bs : List UInt8) (v : Value), (∀ p ∈ R0, p ∈ R) → bs.length + out.length ≤ 1000000000 →
    (∀ bs' v', Wt bs out bs' → K (.tuple #[]) (.row v' 5 1 bs'.length (bC bs') :: .blk bw [v'] 90 :: H) R) → CallsK P w0 f args.toArray (.row v 5 1 bs.length (bC bs) :: .blk bw [v] 90 :: H) R K
section
variable {F : Fence} {n : Nat} {P : Program} {w0 : World} {D : List Deferred} {ops : Array Oper} {Q : Exit → Act → World → Prop} {rest : List Oper} {E : List Value} {H : List Hp} {R R0 : List MP}
theorem fJ [Wd F] {dst : Option Tmp} {f : FuncId} {l : List Operand} {at_ : Array TypeId} {ty : TypeId} {pos : String} {aft : Array Edge} {g : Option (Nat × Bool)} {A : List Value} {bw : Nat} {out bs : List UInt8} {v : Value} {m : Nat} {cs : List Value}
    (hw : Region.wanted ⟨dst, .call ⟨.value (.func f), l.toArray, at_⟩, ty, pos, aft, g⟩ (yielded ops E.toArray) = true) (hA : l.map (ev E) = A) [FnOk P f] (h : Wf P w0 R0 f A bw out) (hsub : ∀ p ∈ R0, p ∈ R) (hm : m = bs.length) (hcs : cs = bC bs) (hb : bs.length + out.length ≤ 1000000000)
    (hk : ∀ bs' v', Wt bs out bs' → T F n P w0 D ops Q rest (eE E dst (.tuple #[])) (.row v' 5 1 bs'.length (bC bs') :: .blk bw [v'] 90 :: H) R) : T F n P w0 D ops Q (⟨dst, .call ⟨.value (.func f), l.toArray, at_⟩, ty, pos, aft, g⟩ :: rest) E (.row v 5 1 m cs :: .blk bw [v] 90 :: H) R := by
  subst hm; subst hcs
  exact dK hw (aT hA (h H R _ bs v hsub hb hk))
end
theorem rA {P : Program} {w0 : World} {R0 R1 : List MP} {f : FuncId} {args : List Value} {bw : Nat} {out out' : List UInt8} (h : Wf P w0 R0 f args bw out) (e : out = out') (hR : R0 = R1) : Wf P w0 R1 f args bw out' := by
  subst e hR; exact h
theorem dM {bs p r : List UInt8} {N : Nat} (h : bs.length + (p ++ r).length ≤ N) : bs.length + p.length ≤ N := by
  rw [List.length_append] at h; omega
theorem dL {bs p r b : List UInt8} {N : Nat} (k : Wt bs p b) (h : bs.length + (p ++ r).length ≤ N) : b.length + r.length ≤ N := by
  have := k.2.1
  rw [List.length_append] at h; omega
theorem dH {w0 : World} (bw : Nat) (n : Int) (hn : dO n) : Wf Tryz.prog w0 [] 31 [.pointer (some ⟨bw, 0, none⟩), .int .i64 n] bw (dA n) := by
  intro H R K bs v _ hb hk
  have hn' : -9223372036854775808 ≤ n ∧ n ≤ 9223372036854775807 := hn
  refine bV Tryz.func31 rfl Tryz.ntmps31 fI ?_
  apply aF; apply aA
  repeat' (first | (refine aE rfl rfl ?_; ((first | refine vC rfl ?_ | refine mK (n := 1) rfl rfl rfl cQ ?_)); refine aB ?_) | (refine aE rfl rfl ?_; ((first | refine aG ?_ | refine aY ?_)); refine aB ?_))
  apply aH; apply aD
  have e1 : (n % 18446744073709551616).toNat * 2 ^ 1 % 2 ^ IntKind.bits .u64 = if 0 ≤ n then uE n else 18446744073709551615 - uE n := by
    simp only [IntKind.bits, uE]
    split <;> omega
  rw [e1]
  have hz := zF hn
  refine jJ [4, 8, 9, 10, 11] (fun j H' R' => j 4 = .int .u64 (uE n : Int) ∧ H' = .row v 5 1 bs.length (bC bs) :: .blk bw [v] 90 :: H ∧ R' = R) ?_ ?_
  · skip
    repeat' (first | (refine aE rfl rfl ?_; refine yF rfl (by split <;> omega) ?_; refine aB ?_) | (apply aF) | (apply aA) | (apply bF) | (apply aK; exact rfl) | (apply aJ; exact rfl) | (apply aH) | (apply aD) | (apply aU; exact rfl; ((refine bQ rfl rfl (fun h => ?_) (fun h => ?_))) <;> (refine aB ?_)) | (refine aE rfl rfl ?_; ((first | refine aG ?_ | refine aY ?_)); refine aB ?_))
    · refine fQ _ R eS ⟨?_, rfl, rfl⟩ (fun w hs => hs)
      show Value.int .u64 _ = _
      rw [if_neg aO, show 18446744073709551615 - (18446744073709551615 - uE n) = uE n by omega]
    · refine fQ _ R eS ⟨?_, rfl, rfl⟩ (fun w hs => hs)
      show Value.int .u64 _ = _
      rw [if_pos aO]
  rintro j H' R' ⟨h4, hH, hR⟩
  subst hH hR
  refine dD (by simp only [eF, List.foldl_cons, List.foldl_nil, List.set_cons_succ, List.set_cons_zero, h4]; rfl) ?_
  refine jJ [4, 12, 13, 14, 15, 16, 17, 18, 19, 20, 21, 22, 23, 24, 25, 26, 27] (fun j H' R2 => ∃ (u : Nat) (bs' : List UInt8) (v' : Value), j 4 = .int .u64 (u : Int) ∧ R2 = R' ∧ H' = .row v' 5 1 bs'.length (bC bs') :: .blk bw [v'] 90 :: H ∧ u < 128 ∧ bs' ++ [UInt8.ofNat u] = bs ++ dA n) ?_ ?_
  · skip
    repeat' ((apply aV))
    refine cM [4, 12, 13, 14, 15, 16, 17, 18, 19, 20, 21, 22, 23, 24, 25, 26, 27] (fun m j H2 R2 => ∃ (u : Nat) (bs' : List UInt8) (v' : Value), j 4 = .int .u64 (u : Int) ∧ R2 = R' ∧ H2 = .row v' 5 1 bs'.length (bC bs') :: .blk bw [v'] 90 :: H ∧ bs' ++ nO m u = bs ++ dA n ∧ u < 2 * 128 ^ m) 9 eS ⟨uE n, bs, v, rfl, rfl, rfl, rfl, by omega⟩ ?_
    rintro m j' H2 R2 ⟨u, bs', v', h4', hR2, hH2, hle, hlt⟩
    subst hR2 hH2
    refine dD (by simp only [eF, List.foldl_cons, List.foldl_nil, List.set_cons_succ, List.set_cons_zero, h4']; rfl) ?_
    have hlen : bs'.length + (nO m u).length = bs.length + (dA n).length := by
      have := congrArg List.length hle
      simpa using this
    have HL := Go.Lib.hid hle
    have HM := Go.Lib.hid hlt
    clear hle hlt
    have hpos := sZ m u
    repeat' (first | (refine aE rfl rfl ?_; ((first | refine tK rfl ?_ | refine pw_orb rfl ?_ | refine lX (n := 7) rfl rfl cQ ?_)); refine aB ?_) | (refine bJ rfl rfl ?_; refine dF 1 0 (news := [fH (UInt8.ofNat (u % 256 ||| 128))]) rfl rfl rfl rfl cQ rfl (by simp [fH, Value.oneCell']) aO aO (fun v2 => ?_); refine aB ?_; refine cE ?_; refine gY 1 rfl (fun A9 c9 hv9 => ?_); subst hv9) | (apply aF) | (apply aA) | (apply aV) | (apply bF) | (apply cG) | (apply aK; exact rfl) | (apply aJ; exact rfl) | (apply aH) | (apply aD) | (apply aW) | (apply bU) | (apply aS) | (apply aP; exact rfl; ((refine aL (i := 1) rfl rfl rfl ?_)); refine aB ?_) | (apply aU; exact rfl; ((refine jS rfl rfl (fun h => ?_) (fun h => ?_))) <;> (refine aB ?_)) | (apply bE; exact rfl; ((refine aN (i := 2) rfl cW rfl dT dB eK ?_)); refine aB ?_; refine cE ?_) | (refine aE rfl rfl ?_; ((first | refine aG ?_ | refine aY ?_ | refine bA rfl ?_ | refine aC rfl ?_)); refine aB ?_) | (refine bJ rfl rfl ?_; ((refine bK cQ fP rfl (fun b => ?_))); refine aB ?_))
    · obtain ⟨k, rfl⟩ : ∃ k, m = k + 1 := by
        cases m with
        | zero => have := HM.out; simp at this; omega
        | succ k => exact ⟨k, rfl⟩
      have hl1 : nO (k + 1) u = UInt8.ofNat (u % 256 ||| 128) :: nO k (u / 128) := by rw [nO, if_pos aO]
      refine cJ k (.row (.slice A9 (bs'.length + 1) c9) 5 1 (bs' ++ [UInt8.ofNat (u % 256 ||| 128)]).length (bC (bs' ++ [UInt8.ofNat (u % 256 ||| 128)])) :: .blk bw [.slice A9 (bs'.length + 1) c9] 90 :: H) R2 aO eS ⟨u / 128, bs' ++ [UInt8.ofNat (u % 256 ||| 128)], .slice A9 (bs'.length + 1) c9, rfl, rfl, rfl, ?_, ?_⟩ (fun w hs => ?_)
      · rw [← HL.out, hl1]; simp
      · have := HM.out; rw [Nat.pow_succ] at this; omega
      · rw [eX, List.length_append]
        exact hs.weaken eB hP
    · have hl1 : nO m u = [UInt8.ofNat u] := by
        cases m with
        | zero => rfl
        | succ k => rw [nO, if_neg aO]
      refine fQ _ R2 eS ⟨u, bs', v', rfl, rfl, rfl, by omega, by rw [← hl1]; exact HL.out⟩ (fun w hs => hs)
  rintro j2 H2 R3 ⟨u, bs', v', h4', hR2, hH2, hu, hle⟩
  subst hR2 hH2
  refine dD (by simp only [eF, List.foldl_cons, List.foldl_nil, List.set_cons_succ, List.set_cons_zero, h4']; rfl) ?_
  have hlen : bs'.length + 1 = bs.length + (dA n).length := by
    have := congrArg List.length hle
    simpa using this
  repeat' (first | (refine aE rfl rfl ?_; refine tK rfl ?_; refine aB ?_) | (refine bJ rfl rfl ?_; refine dF 1 0 (news := [fH (UInt8.ofNat u)]) rfl rfl rfl rfl cQ rfl (by simp [fH, Value.oneCell']) aO aO (fun v2 => ?_); refine aB ?_; refine cE ?_; refine gY 1 rfl (fun A9 c9 hv9 => ?_); subst hv9) | (apply aA) | (apply aH) | (apply aP; exact rfl; ((refine aL (i := 1) rfl rfl rfl ?_)); refine aB ?_) | (apply bE; exact rfl; ((refine aN (i := 2) rfl cW rfl dT dB eK ?_)); refine aB ?_; refine cE ?_) | (refine aE rfl rfl ?_; ((first | refine aG ?_ | refine bA rfl ?_ | refine aC rfl ?_)); refine aB ?_) | (refine bJ rfl rfl ?_; ((refine bK cQ fP rfl (fun b => ?_))); refine aB ?_))
  refine aZ (.inr rfl) (gQ rfl) (cA (.row (.slice A9 (bs'.length + 1) c9) 5 1 (bs ++ dA n).length (bC (bs ++ dA n)) :: .blk bw [.slice A9 (bs'.length + 1) c9] 90 :: H) R3 (fun w hs => ?_) (hk (bs ++ dA n) (.slice A9 (bs'.length + 1) c9) (Wt.all bs (dA n))))
  rw [← hle, eX, List.length_append]
  exact hs.weaken eB hP
end Go.Proofs.YtggdljhmbckpmaaGreat
namespace Go.Proofs.YtggdljhmbckpmaaGreat
open Go Go.RowKit
attribute [local semireducible] T TC En PW GW OW CallsK CallsP Sl Rd Ls At S TA
section
variable {P : Program} {w0 : World} {E : List Value} {H : List Hp} {R : List MP} {ty : TypeId} {K : Value → List Hp → List MP → Prop}
theorem sP (s : ByteArray) : Lib.strCells s = bC s.data.toList := rfl
theorem uM {t u e : TypeId} {x y : Operand} (i : Nat) {n : Nat} {cs : List Value} {v : Value} {s : ByteArray} [h : TyL P t e 1 1 [.int .u8 0]] [hu : TyU P u .string] (hx : ev E x = v) (hy : ev E y = .string s) (hi : H[i]? = some (.row v e 1 n cs)) (hnm : n + s.size ≤ 140737488355328)
    (kk : ∀ v', K v' (H.set i (.row v' e 1 (n + s.size) (cs ++ bC s.data.toList))) R) : GW P w0 E (.call ⟨.builtin .append, #[x, y], #[t, u]⟩) ty H R K := fun w hw => by
  obtain ⟨ti, z, hti, e1, e2, e3, e4, hna⟩ := h.info
  have hz : ti.zero = some (.int .u8 0) := by
    rw [e3]
    congr 1
    cases z with
    | agg c => exact absurd rfl (hna rfl c)
    | _ => first | (simp [Value.cells] at e4; done) | simpa [Value.cells] using e4
  have hrow : w.ownsRow w0.heap.size e 1 v n cs := by
    obtain ⟨s, hok⟩ := hw
    exact (hok.hp _ (List.mem_of_getElem? hi)).1
  have hbase : w0.heap.size ≤ w.heap.size := hw.below.size
  obtain ⟨v', w', hr, ho, hg, hnil⟩ := Lib.run_append_own_string (P := P) w w0.heap.size t u ty e ti h.und hu.und hti hz e1 e2 v n cs hrow s (by simp only [maxLen]; omega) hnm hbase
  have hxl : cs.length = n := by simpa using hrow.1
  have hb : v'.ownBlock = none ∨ v'.ownBlock = v.ownBlock ∨ ∃ b, v'.ownBlock = some b ∧ w.heap.size ≤ b := by
    rcases hrow.2 with ⟨rfl, rfl⟩ | ⟨g, cap, cur, rfl, hbg, hgc, hnc, hcm, hcs, htake⟩
    · by_cases hm : s.size = 0
      · rw [hnil.2 ⟨rfl, hm⟩]; exact .inl rfl
      · have hr2 := run_append_nil_string (P := P) w t u ty e ti (.int .u8 0) h.und hu.und hti hz s aO aO (by rw [e2]; omega)
        rw [hr] at hr2
        injection hr2 with hv _
        exact .inr (.inr ⟨w.heap.size, by rw [hv]; rfl, Nat.le_refl _⟩)
    · by_cases hroom : n + s.size ≤ cap
      · have hcs' : cur.size = cap := by simpa using hcs
        have hr2 := Lib.run_append_room_string (P := P) w t u ty e ti h.und hu.und hti e1 g n cap cur hgc s hroom aO
        rw [hr] at hr2
        injection hr2 with hv _
        exact .inr (.inl (by rw [hv]; rfl))
      · have holds : ∀ j u, cs[j]? = some u → w.cell? ((⟨g, 0, none⟩ : Addr).add j) = some u := hrow.cells (g := g) rfl
        have hr2 := Lib.run_append_grow_string (P := P) w t u ty e ti (.int .u8 0) h.und hu.und hti hz ⟨g, 0, none⟩ n cap cs (by rw [e1]; simpa using hxl) holds s aO aO (by rw [e2]; exact growslice_fits aO aO)
        rw [hr] at hr2
        injection hr2 with hv _
        exact .inr (.inr ⟨w.heap.size, by rw [hv]; rfl, Nat.le_refl _⟩)
  rw [sP] at ho
  exact ⟨v', w', _, _, .inl (by simp [nG, execOp, resolve, invoke, builtin, hx, hy, hr]), hw.grow hi hg ho hb, kk v'⟩
end
end Go.Proofs.YtggdljhmbckpmaaGreat
