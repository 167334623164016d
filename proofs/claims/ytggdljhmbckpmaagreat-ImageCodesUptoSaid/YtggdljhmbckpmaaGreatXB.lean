/- The reference's writer: terms, types: walks. The reference's writer: frames, brackets, scopes, values: walks. -/
import Derived.Test.YtggdljhmbckpmaaGreatXA
import Derived.Test.YtggdljhmbckpmaaGreatNB
set_option linter.unusedVariables false
set_option linter.unusedSimpArgs false
namespace Go.Proofs.YtggdljhmbckpmaaGreat
open Go Go.RowKit
set_option maxRecDepth 100000
set_option maxHeartbeats 3200000

theorem jP {w0 : World} {H : List Hp} {R : List MP} {K : Value → List Hp → List MP → Prop} (bw : Nat) (bs : List UInt8) (v : Value) (hf : 250000 < bs.length) (hb : bs.length ≤ 1000000000)
    (k : K (.bool true) (.row v 5 1 bs.length (bA bs) :: .blk bw [v] 90 :: H) R) : CallsK Tryz.prog w0 35 #[.pointer (some ⟨bw, 0, none⟩)] (.row v 5 1 bs.length (bA bs) :: .blk bw [v] 90 :: H) R K :=
  xQ bw bs v hb (by rw [decide_eq_true hf]; exact k)
theorem jQ {w0 : World} {H : List Hp} {R : List MP} {K : Value → List Hp → List MP → Prop} (bw : Nat) (bs : List UInt8) (v : Value) (hf : bs.length ≤ 250000)
    (k : K (.bool false) (.row v 5 1 bs.length (bA bs) :: .blk bw [v] 90 :: H) R) : CallsK Tryz.prog w0 35 #[.pointer (some ⟨bw, 0, none⟩)] (.row v 5 1 bs.length (bA bs) :: .blk bw [v] 90 :: H) R K :=
  xQ bw bs v (by omega) (by rw [decide_eq_false (by omega)]; exact k)
theorem iH {α : Type} {enc : α → List UInt8} (l : List α) (i : Nat) (h : i < l.length) : (l.take (i + 1)).flatMap enc = (l.take i).flatMap enc ++ enc l[i] := by
  rw [List.take_succ_eq_append_getElem h, List.flatMap_append, List.flatMap_cons, List.flatMap_nil, List.append_nil]
theorem eG {α : Type} {enc : α → List UInt8} (l : List α) (i : Nat) : ((l.take i).flatMap enc).length ≤ (l.flatMap enc).length := by
  conv => rhs; rw [← List.take_append_drop i l, List.flatMap_append, List.length_append]
  omega
theorem fG {α : Type} {enc : α → List UInt8} (l : List α) (i : Nat) : (l.take i).flatMap enc ++ (l.drop i).flatMap enc = l.flatMap enc := by
  rw [← List.flatMap_append, List.take_append_drop]
theorem uO {w0 : World} (bw : Nat) (A : Option Addr) (c : Nat) (l : List Tm) (hx : l.length ≤ 9223372036854775807) (hone : ∀ x ∈ l, ∀ y, Unp.ok x y → Wf Tryz.prog w0 (Unp.fs x y) 132 [.pointer (some ⟨bw, 0, none⟩), .agg (Unp.cs x y).toArray] bw (Tm.enc x)) : Wf Tryz.prog w0 [Sl (.slice A l.length c) l] 129 [.pointer (some ⟨bw, 0, none⟩), .slice A l.length c] bw (cL l.length ++ l.flatMap Tm.enc) := by
  intro H R K bs v hsub hb hk
  have hm : Sl (.slice A l.length c) l ∈ R := hsub _ (by simp)
  rw [List.length_append] at hb
  refine bX Tryz.func129 rfl Tryz.ntmps129 eZ ?_
  repeat' (first | (apply aF) | (apply aA) | (refine aE rfl rfl ?_; ((first | refine aH ?_ | refine bQ rfl ?_)); refine aB ?_))
  refine eK rfl rfl (cX bw l.length (by simp only [dD]; omega)) (fun _ h => (by cases h)) rfl rfl (by omega) (fun bs1 v1 h1 => ?_)
  refine aB ?_
  have h1l := h1.2.1
  repeat' (first | (apply aF) | (apply aA) | (apply aT) | (apply aG) | (apply aD) | (refine aE rfl rfl ?_; ((refine aX ?_)); refine aB ?_))
  refine cK [4, 9, 10, 11, 12, 13, 14, 15, 16, 17, 18, 19, 20, 21, 22, 23, 24, 25] (fun m j H2 R2 => ∃ (i : Nat) (bs' : List UInt8) (v' : Value), i + m = l.length ∧ j 4 = .int .i64 (i : Int) ∧ (∀ p ∈ R, p ∈ R2) ∧ H2 = .row v' 5 1 bs'.length (bA bs') :: .blk bw [v'] 90 :: H ∧ Wt bs1 ((l.take i).flatMap Tm.enc) bs') l.length eE ⟨0, bs1, v1, by omega, rfl, fun _ h => h, rfl, Wt.nil bs1⟩ ?_
  rintro m j' H2 R2 ⟨i, bs', v', him, hc, hR2, hH2, hW⟩
  subst hH2
  have hm2 := hR2 _ hm
  refine cQ (by simp only [dX, List.foldl_cons, List.foldl_nil, List.set_cons_succ, List.set_cons_zero, hc]; rfl) ?_
  have hWl := hW.2.1
  have htl := eG (enc := Tm.enc) l i
  rcases Nat.lt_or_ge i l.length with hlt | hge
  · rcases Nat.lt_or_ge 250000 bs'.length with hf | hf
    · have hW := (hW.over (o2 := (l.drop i).flatMap Tm.enc) hf).eq (fG l i)
      repeat' (first | (refine dS rfl ?_; refine aY fA ?_; refine jP bw bs' v' hf (by omega) ?_; refine aB ?_) | (apply aF) | (apply aA) | (apply bV) | (apply aI; exact rfl) | (apply aG) | (apply aD) | (apply aS) | (apply aR) | (apply aU; exact rfl; ((refine bM rfl rfl (fun h => ?_) (fun h => ?_))) <;> (first | (exfalso; omega) | refine aB ?_)) | (refine aE rfl rfl ?_; ((first | refine aH ?_ | refine bT rfl eJ ?_ | refine bQ rfl ?_ | refine dE rfl ?_)); refine aB ?_))
      exact bC (.inr rfl) (fV rfl) (cG (.row v' 5 1 bs'.length (bA bs') :: .blk bw [v'] 90 :: H) R (fun w hs => hs.weaken bU hR2) (hk bs' v' (h1.trans hW)))
    · have ht := iH (enc := Tm.enc) l i hlt
      have hle := eG (enc := Tm.enc) l (i + 1)
      rw [ht, List.length_append] at hle
      repeat' (first | (refine dS rfl ?_; refine aY fA ?_; refine jQ bw bs' v' hf ?_; refine aB ?_) | (apply gL; exact rfl; refine dL rfl rfl hm2 rfl (d := l[i]) (by simp only [Int.toNat_natCast]; exact List.getElem?_eq_getElem (by omega)) (by omega) (fun b_ o y hy => ?_); refine aB ?_) | (refine aP rfl ?_; refine aZ rfl List.mem_cons_self (cN (UnpL.len _ _)) ?_; refine aB ?_) | (apply aF) | (apply aA) | (apply aT) | (apply bE) | (apply aK; exact rfl) | (apply aG) | (apply aD) | (apply aU; exact rfl; ((refine bM rfl rfl (fun h => ?_) (fun h => ?_))) <;> (first | (exfalso; omega) | refine aB ?_)) | (refine aE rfl rfl ?_; ((first | refine aH ?_ | refine bT rfl eJ ?_ | refine bQ rfl ?_ | refine dE rfl ?_)); refine aB ?_))
      refine eK rfl rfl (hone l[i] (List.getElem_mem _) y hy) (fun p hp => List.mem_cons_of_mem _ (List.mem_append_left _ hp)) rfl rfl (by omega) (fun bs2 v2 h2 => ?_)
      refine aB ?_
      repeat' (first | (apply aA) | (apply aG) | (apply aD) | (apply bP) | (apply aU; exact rfl; ((refine bI rfl rfl (by omega) (by omega) ?_)); refine aB ?_) | (refine aE rfl rfl ?_; ((first | refine aH ?_ | refine aX ?_)); refine aB ?_))
      exact cE (m - 1) (.row v2 5 1 bs2.length (bA bs2) :: .blk bw [v2] 90 :: H) R (by omega) eE ⟨i + 1, bs2, v2, by omega, rfl, fun _ h => h, rfl, by rw [ht]; exact hW.trans h2⟩ (fun w hs => hs.weaken bU (fun p hp => List.mem_cons_of_mem _ (List.mem_append_right _ (hR2 p hp))))
  · rw [List.take_of_length_le hge] at hW
    repeat' (first | (apply aF) | (apply aA) | (apply bV) | (apply aI; exact rfl) | (apply aG) | (apply aD) | (apply aS) | (apply aR) | (apply aU; exact rfl; ((refine bM rfl rfl (fun h => ?_) (fun h => ?_))) <;> (first | (exfalso; omega) | refine aB ?_)) | (refine aE rfl rfl ?_; ((first | refine aH ?_ | refine cI rfl eJ ?_ | refine bQ rfl ?_)); refine aB ?_) | (refine cR rfl ?_; refine aB ?_))
    exact bC (.inr rfl) (fV rfl) (cG (.row v' 5 1 bs'.length (bA bs') :: .blk bw [v'] 90 :: H) R (fun w hs => hs.weaken bU hR2) (hk bs' v' (h1.trans hW)))
theorem j9 {w0 : World} (bw : Nat) : ∀ n : Nat, ∀ (x0 : Int) (hx0 : dD x0) (x1 : Int) (hx1 : dD x1) (x2 : ByteArray) (hx2 : x2.size ≤ 9223372036854775807) (Ax3 : Option Addr) (cx3 : Nat) (x3 : List Tm) (hx3 : x3.length ≤ 9223372036854775807), SizeOf.sizeOf (Tm.mk x0 x1 x2 x3) < n → Wf Tryz.prog w0 [Sl (.slice Ax3 x3.length cx3) x3] 132 [.pointer (some ⟨bw, 0, none⟩), .agg #[.int .i64 x0, .int .i64 x1, .string x2, .slice Ax3 x3.length cx3]] bw (cL x0 ++ (cL x1 ++ (gY x2 ++ ((cL x3.length ++ x3.flatMap Tm.enc))))) := by
  intro n
  induction n with
  | zero => exact fun x0 hx0 x1 hx1 x2 hx2 Ax3 cx3 x3 hx3 h => absurd h (Nat.not_lt_zero _)
  | succ n ih =>
  intro x0 hx0 x1 hx1 x2 hx2 Ax3 cx3 x3 hx3 hsz
  have ih' : ∀ x ∈ x3, ∀ y : Unp.Y Tm, Unp.ok x y → Wf Tryz.prog w0 (Unp.fs x y) 132 [.pointer (some ⟨bw, 0, none⟩), .agg (Unp.cs x y).toArray] bw (Tm.enc x) := by
    intro x hx y hy
    have hlt := List.sizeOf_lt_of_mem hx
    obtain ⟨k', i', nm', l'⟩ := x
    exact pL (ih k' hy.1 i' hy.2.1 nm' hy.2.2.1 y.1 y.2 l' hy.2.2.2 (by simp only [Tm.mk.sizeOf_spec] at hsz hlt ⊢; omega)) (Tm.enc_eq _ _ _ _).symm rfl
  have rt : ∀ (bw' : Nat) (A : Option Addr) (c : Nat) (l : List Tm) (hl : l.length ≤ 9223372036854775807), bw' = bw → l = x3 → Wf Tryz.prog w0 [Sl (.slice A l.length c) l] 129 [.pointer (some ⟨bw', 0, none⟩), .slice A l.length c] bw' (cL l.length ++ l.flatMap Tm.enc) := by
    intro bw' A c l hl e1 e2
    subst e1 e2
    exact uO bw' A c l hl ih'
  intro H R K bs v hsub hb hk
  have hb0 := hb
  clear hb
  have hS0 : Sl (.slice Ax3 x3.length cx3) x3 ∈ R := hsub _ (by simp)
  clear hsub
  refine bX Tryz.func132 rfl Tryz.ntmps132 eZ ?_
  apply aF; apply aA
  repeat' ((refine bG rfl rfl ?_; ((refine eB cW (fun b => ?_))); refine aB ?_))
  revert b
  intro bx
  apply aG; apply aD
  refine eS 0 rfl ?_
  refine iI rZ ?_
  repeat' (first | (apply aF) | (apply aA) | (apply aP; exact rfl; ((refine aQ rfl cJ rfl ?_)); refine aB ?_) | (refine aE rfl rfl ?_; ((first | refine aH ?_ | refine aC rfl ?_)); refine aB ?_))
  refine eK rfl rfl (cX bw x0 hx0) (fun _ h => (by cases h)) rfl rfl (dA hb0) (fun bs1 v1 h1 => ?_)
  refine aB ?_
  have hb1 := dB h1 hb0
  repeat' (first | (apply aF) | (apply aA) | (apply aG) | (apply aD) | (apply aP; exact rfl; ((refine aQ rfl cJ rfl ?_)); refine aB ?_) | (refine aE rfl rfl ?_; ((first | refine aH ?_ | refine aC rfl ?_)); refine aB ?_))
  refine eK rfl rfl (cX bw x1 hx1) (fun _ h => (by cases h)) rfl rfl (dA hb1) (fun bs2 v2 h2 => ?_)
  refine aB ?_
  have hb2 := dB h2 hb1
  repeat' (first | (apply aF) | (apply aA) | (apply aG) | (apply aD) | (apply aP; exact rfl; ((refine aQ rfl cJ rfl ?_)); refine aB ?_) | (refine aE rfl rfl ?_; ((first | refine aH ?_ | refine aC rfl ?_)); refine aB ?_))
  refine eK rfl rfl (tN bw x2) (fun _ h => (by cases h)) rfl rfl (dA hb2) (fun bs3 v3 h3 => ?_)
  refine aB ?_
  have hb3 := dB h3 hb2
  repeat' (first | (apply aA) | (apply aG) | (apply aD) | (apply aP; exact rfl; ((refine aQ rfl cJ rfl ?_)); refine aB ?_) | (refine aE rfl rfl ?_; ((first | refine aH ?_ | refine aC rfl ?_)); refine aB ?_))
  refine eK rfl rfl (rt bw Ax3 cx3 x3 hx3 rfl rfl) (bL aV (fun _ h => (by cases h))) rfl rfl hb3 (fun bs4 v4 h4 => ?_)
  refine aB ?_
  repeat' ((apply aG))
  exact bC (.inr rfl) (fV rfl) (cG (.row v4 5 1 bs4.length (bA bs4) :: .blk bw [v4] 90 :: H) R (fun w hs => hs.weaken bU cZ) (hk bs4 v4 (h1.trans (h2.trans (h3.trans h4)))))
theorem xL {w0 : World} (bw : Nat) (x : Tm) (y : Unp.Y Tm) (hok : Unp.ok x y) : Wf Tryz.prog w0 (Unp.fs x y) 132 [.pointer (some ⟨bw, 0, none⟩), .agg (Unp.cs x y).toArray] bw x.enc := by
  obtain ⟨k, i, nm, l⟩ := x
  exact pL (j9 bw _ k hok.1 i hok.2.1 nm hok.2.2.1 y.1 y.2 l hok.2.2.2 (Nat.lt_succ_self _)) (Tm.enc_eq _ _ _ _).symm rfl
theorem mV {w0 : World} (bw : Nat) (A : Option Addr) (c : Nat) (l : List Tm) (hx : l.length ≤ 9223372036854775807) : Wf Tryz.prog w0 [Sl (.slice A l.length c) l] 129 [.pointer (some ⟨bw, 0, none⟩), .slice A l.length c] bw (cL l.length ++ l.flatMap Tm.enc) :=
  uO bw A c l hx (fun x _ y hy => xL bw x y hy)
theorem aA1 {w0 : World} (bw : Nat) : ∀ n : Nat, ∀ (x0 : ByteArray) (hx0 : x0.size ≤ 9223372036854775807) (Ax1 : Option Addr) (cx1 : Nat) (x1 : List Tp) (hx1 : x1.length ≤ 9223372036854775807), SizeOf.sizeOf (Tp.mk x0 x1) < n → Wf Tryz.prog w0 [Sl (.slice Ax1 x1.length cx1) x1] 131 [.pointer (some ⟨bw, 0, none⟩), .agg #[.string x0, .slice Ax1 x1.length cx1]] bw (gY x0 ++ (cL x1.length ++ ((x1.flatMap Tp.enc)))) := by
  intro n
  induction n with
  | zero => exact fun x0 hx0 Ax1 cx1 x1 hx1 h => absurd h (Nat.not_lt_zero _)
  | succ n ih =>
  intro x0 hx0 Ax1 cx1 x1 hx1 hsz
  have ih' : ∀ x ∈ x1, ∀ y : Unp.Y Tp, Unp.ok x y → Wf Tryz.prog w0 (Unp.fs x y) 131 [.pointer (some ⟨bw, 0, none⟩), .agg (Unp.cs x y).toArray] bw (Tp.enc x) := by
    intro x hx y hy
    have hlt := List.sizeOf_lt_of_mem hx
    obtain ⟨nm', l'⟩ := x
    exact pL (ih nm' hy.1 y.1 y.2 l' hy.2 (by simp only [Tp.mk.sizeOf_spec] at hsz hlt ⊢; omega)) (Tp.enc_eq _ _).symm rfl
  intro H R K bs v hsub hb hk
  have hb0 := hb
  clear hb
  have hS0 : Sl (.slice Ax1 x1.length cx1) x1 ∈ R := hsub _ (by simp)
  clear hsub
  refine bX Tryz.func131 rfl Tryz.ntmps131 eZ ?_
  apply aF; apply aA
  repeat' ((refine bG rfl rfl ?_; ((refine eB cW (fun b => ?_))); refine aB ?_))
  revert b
  intro bx
  apply aG; apply aD
  refine eS 0 rfl ?_
  refine iI rZ ?_
  repeat' (first | (apply aF) | (apply aA) | (apply aP; exact rfl; ((refine aQ rfl cJ rfl ?_)); refine aB ?_) | (refine aE rfl rfl ?_; ((first | refine aH ?_ | refine aC rfl ?_)); refine aB ?_))
  refine eK rfl rfl (tN bw x0) (fun _ h => (by cases h)) rfl rfl (dA hb0) (fun bs1 v1 h1 => ?_)
  refine aB ?_
  have hb1 := dB h1 hb0
  repeat' (first | (apply aF) | (apply aA) | (apply aG) | (apply aD) | (apply aP; exact rfl; ((refine aQ rfl cJ rfl ?_)); refine aB ?_) | (refine aE rfl rfl ?_; ((first | refine aH ?_ | refine aC rfl ?_ | refine bQ rfl ?_)); refine aB ?_))
  refine eK rfl rfl (cX bw x1.length (by simp only [dD]; omega)) (fun _ h => (by cases h)) rfl rfl (dA hb1) (fun bs2 v2 h2 => ?_)
  refine aB ?_
  have hb2 := dB h2 hb1
  repeat' (first | (apply aF) | (apply aA) | (apply aT) | (apply aG) | (apply aD) | (refine aE rfl rfl ?_; ((refine aX ?_)); refine aB ?_))
  have hbl := hb2
  refine cK [4, 14, 15, 16, 17, 18, 19, 20, 21, 22, 23, 24, 25, 26, 27, 28, 29, 30, 31, 32] (fun m j H2 R2 => ∃ (i : Nat) (bs' : List UInt8) (v' : Value), i + m = x1.length ∧ j 4 = .int .i64 (i : Int) ∧ (∀ p ∈ (At bx 0 [.string x0, .slice Ax1 x1.length cx1] :: R), p ∈ R2) ∧ H2 = .row v' 5 1 bs'.length (bA bs') :: .blk bw [v'] 90 :: H ∧ Wt bs2 ((x1.take i).flatMap Tp.enc) bs') x1.length eE ⟨0, bs2, v2, by omega, rfl, fun _ h => h, rfl, Wt.nil bs2⟩ ?_
  rintro m j' H2 R2 ⟨i, bs', v', him, hc, hR2, hH2, hW⟩
  subst hH2
  have hat2 := hR2 _ List.mem_cons_self
  have hm2 := hR2 _ (List.mem_cons_of_mem _ hS0)
  refine cQ (by simp only [dX, List.foldl_cons, List.foldl_nil, List.set_cons_succ, List.set_cons_zero, hc]; rfl) ?_
  have hWl := hW.2.1
  have htl := eG (enc := Tp.enc) x1 i
  rcases Nat.lt_or_ge i x1.length with hlt | hge
  · rcases Nat.lt_or_ge 250000 bs'.length with hf | hf
    · have hW := (hW.over (o2 := (x1.drop i).flatMap Tp.enc) hf).eq (fG x1 i)
      repeat' (first | (refine dS rfl ?_; refine aY fA ?_; refine jP bw bs' v' hf (by omega) ?_; refine aB ?_) | (apply aF) | (apply aA) | (apply bV) | (apply aI; exact rfl) | (apply aG) | (apply aD) | (apply aS) | (apply aR) | (apply aP; exact rfl; ((refine aQ rfl cJ rfl ?_)); refine aB ?_) | (apply aU; exact rfl; ((refine bM rfl rfl (fun h => ?_) (fun h => ?_))) <;> (first | (exfalso; omega) | refine aB ?_)) | (refine aE rfl rfl ?_; ((first | refine aH ?_ | refine bT rfl eJ ?_ | refine aC rfl ?_ | refine bQ rfl ?_ | refine dE rfl ?_)); refine aB ?_))
      exact bC (.inr rfl) (fV rfl) (cG (.row v' 5 1 bs'.length (bA bs') :: .blk bw [v'] 90 :: H) R (fun w hs => hs.weaken bU (fun p hp => hR2 p (List.mem_cons_of_mem _ hp))) (hk bs' v' (h1.trans (h2.trans hW))))
    · have ht := iH (enc := Tp.enc) x1 i hlt
      have hle := eG (enc := Tp.enc) x1 (i + 1)
      rw [ht, List.length_append] at hle
      repeat' (first | (refine dS rfl ?_; refine aY fA ?_; refine jQ bw bs' v' hf ?_; refine aB ?_) | (apply gL; exact rfl; refine dL (xs := x1) rfl rfl aV rfl (d := x1[i]) (by simp only [Int.toNat_natCast]; exact List.getElem?_eq_getElem (by omega)) (by omega) (fun b_ o y hy => ?_); refine aB ?_) | (refine aP rfl ?_; refine aZ rfl List.mem_cons_self (cN (UnpL.len _ _)) ?_; refine aB ?_) | (apply aF) | (apply aA) | (apply aT) | (apply bE) | (apply aK; exact rfl) | (apply aG) | (apply aD) | (apply aP; exact rfl; ((refine aQ rfl cJ rfl ?_)); refine aB ?_) | (apply aU; exact rfl; ((refine bM rfl rfl (fun h => ?_) (fun h => ?_))) <;> (first | (exfalso; omega) | refine aB ?_)) | (refine aE rfl rfl ?_; ((first | refine aH ?_ | refine bT rfl eJ ?_ | refine aC rfl ?_ | refine bQ rfl ?_ | refine dE rfl ?_)); refine aB ?_))
      refine eK rfl rfl (ih' x1[i] (List.getElem_mem _) y hy) (fun p hp => List.mem_cons_of_mem _ (List.mem_append_left _ hp)) rfl rfl (by omega) (fun bs2 v2 h2 => ?_)
      refine aB ?_
      repeat' (first | (apply aA) | (apply aG) | (apply aD) | (apply bP) | (apply aU; exact rfl; ((refine bI rfl rfl (by omega) (by omega) ?_)); refine aB ?_) | (refine aE rfl rfl ?_; ((first | refine aH ?_ | refine aX ?_)); refine aB ?_))
      exact cE (m - 1) (.row v2 5 1 bs2.length (bA bs2) :: .blk bw [v2] 90 :: H) (At bx 0 [.string x0, .slice Ax1 x1.length cx1] :: R) (by omega) eE ⟨i + 1, bs2, v2, by omega, rfl, fun _ h => h, rfl, by rw [ht]; exact hW.trans h2⟩ (fun w hs => hs.weaken bU (fun p hp => List.mem_cons_of_mem _ (List.mem_append_right _ (hR2 p hp))))
  · rw [List.take_of_length_le hge] at hW
    repeat' (first | (apply aF) | (apply aA) | (apply bV) | (apply aI; exact rfl) | (apply aG) | (apply aD) | (apply aS) | (apply aR) | (apply aP; exact rfl; ((refine aQ rfl cJ rfl ?_)); refine aB ?_) | (apply aU; exact rfl; ((refine bM rfl rfl (fun h => ?_) (fun h => ?_))) <;> (first | (exfalso; omega) | refine aB ?_)) | (refine aE rfl rfl ?_; ((first | refine aH ?_ | refine cI rfl eJ ?_ | refine aC rfl ?_ | refine bQ rfl ?_)); refine aB ?_) | (refine cR rfl ?_; refine aB ?_))
    exact bC (.inr rfl) (fV rfl) (cG (.row v' 5 1 bs'.length (bA bs') :: .blk bw [v'] 90 :: H) R (fun w hs => hs.weaken bU (fun p hp => hR2 p (List.mem_cons_of_mem _ hp))) (hk bs' v' (h1.trans (h2.trans hW))))
theorem rtyp_w {w0 : World} (bw : Nat) (x : Tp) (y : Unp.Y Tp) (hok : Unp.ok x y) : Wf Tryz.prog w0 (Unp.fs x y) 131 [.pointer (some ⟨bw, 0, none⟩), .agg (Unp.cs x y).toArray] bw x.enc := by
  obtain ⟨nm, l⟩ := x
  exact pL (aA1 bw _ nm hok.1 y.1 y.2 l hok.2 (Nat.lt_succ_self _)) (Tp.enc_eq _ _).symm rfl
end Go.Proofs.YtggdljhmbckpmaaGreat
namespace Go.Proofs.YtggdljhmbckpmaaGreat
open Go Go.RowKit
set_option maxRecDepth 100000
set_option maxHeartbeats 3200000

theorem zZ {w0 : World} (bw : Nat) (Ax0 : Option Addr) (cx0 : Nat) (x0 : List Tm) (hx0 : x0.length ≤ 9223372036854775807) (Ax1 : Option Addr) (cx1 : Nat) (x1 : List Tm) (hx1 : x1.length ≤ 9223372036854775807) (x2 : Int) (hx2 : dD x2) (x3 : Int) (hx3 : dD x3) (x4 : Int) (hx4 : dD x4) : Wf Tryz.prog w0 [Sl (.slice Ax0 x0.length cx0) x0, Sl (.slice Ax1 x1.length cx1) x1] 82 [.pointer (some ⟨bw, 0, none⟩), .agg #[.slice Ax0 x0.length cx0, .slice Ax1 x1.length cx1, .int .i64 x2, .int .i64 x3, .int .i64 x4]] bw ((cL x0.length ++ x0.flatMap Tm.enc) ++ ((cL x1.length ++ x1.flatMap Tm.enc) ++ (cL x2 ++ (cL x3 ++ (cL x4))))) := by
  intro H R K bs v hsub hb hk
  have hb0 := hb
  clear hb
  have hS0 : Sl (.slice Ax0 x0.length cx0) x0 ∈ R := hsub _ (by simp)
  have hS1 : Sl (.slice Ax1 x1.length cx1) x1 ∈ R := hsub _ (by simp)
  clear hsub
  refine bX Tryz.func82 rfl Tryz.ntmps82 eZ ?_
  apply aF; apply aA
  repeat' ((refine bG rfl rfl ?_; ((refine eB cW (fun b => ?_))); refine aB ?_))
  revert b
  intro bx
  apply aG; apply aD
  refine eS 0 rfl ?_
  refine iI rZ ?_
  repeat' (first | (apply aF) | (apply aA) | (apply aP; exact rfl; ((refine aQ rfl cJ rfl ?_)); refine aB ?_) | (refine aE rfl rfl ?_; ((first | refine aH ?_ | refine aC rfl ?_)); refine aB ?_))
  refine eK rfl rfl (mV bw Ax0 cx0 x0 hx0) (bL aV (fun _ h => (by cases h))) rfl rfl (dA hb0) (fun bs1 v1 h1 => ?_)
  refine aB ?_
  have hb1 := dB h1 hb0
  repeat' (first | (apply aF) | (apply aA) | (apply aG) | (apply aD) | (apply aP; exact rfl; ((refine aQ rfl cJ rfl ?_)); refine aB ?_) | (refine aE rfl rfl ?_; ((first | refine aH ?_ | refine aC rfl ?_)); refine aB ?_))
  refine eK rfl rfl (mV bw Ax1 cx1 x1 hx1) (bL aV (fun _ h => (by cases h))) rfl rfl (dA hb1) (fun bs2 v2 h2 => ?_)
  refine aB ?_
  have hb2 := dB h2 hb1
  repeat' (first | (apply aF) | (apply aA) | (apply aG) | (apply aD) | (apply aP; exact rfl; ((refine aQ rfl cJ rfl ?_)); refine aB ?_) | (refine aE rfl rfl ?_; ((first | refine aH ?_ | refine aC rfl ?_)); refine aB ?_))
  refine eK rfl rfl (cX bw x2 hx2) (fun _ h => (by cases h)) rfl rfl (dA hb2) (fun bs3 v3 h3 => ?_)
  refine aB ?_
  have hb3 := dB h3 hb2
  repeat' (first | (apply aF) | (apply aA) | (apply aG) | (apply aD) | (apply aP; exact rfl; ((refine aQ rfl cJ rfl ?_)); refine aB ?_) | (refine aE rfl rfl ?_; ((first | refine aH ?_ | refine aC rfl ?_)); refine aB ?_))
  refine eK rfl rfl (cX bw x3 hx3) (fun _ h => (by cases h)) rfl rfl (dA hb3) (fun bs4 v4 h4 => ?_)
  refine aB ?_
  have hb4 := dB h4 hb3
  repeat' (first | (apply aA) | (apply aG) | (apply aD) | (apply aP; exact rfl; ((refine aQ rfl cJ rfl ?_)); refine aB ?_) | (refine aE rfl rfl ?_; ((first | refine aH ?_ | refine aC rfl ?_)); refine aB ?_))
  refine eK rfl rfl (cX bw x4 hx4) (fun _ h => (by cases h)) rfl rfl hb4 (fun bs5 v5 h5 => ?_)
  refine aB ?_
  repeat' ((apply aG))
  exact bC (.inr rfl) (fV rfl) (cG (.row v5 5 1 bs5.length (bA bs5) :: .blk bw [v5] 90 :: H) R (fun w hs => hs.weaken bU cZ) (hk bs5 v5 (h1.trans (h2.trans (h3.trans (h4.trans h5))))))
theorem p9 {w0 : World} (bw : Nat) (x : oK) (y : Unp.Y oK) (hok : Unp.ok x y) : Wf Tryz.prog w0 (Unp.fs x y) 82 [.pointer (some ⟨bw, 0, none⟩), .agg (Unp.cs x y).toArray] bw (Cod.enc x) := by
  obtain ⟨l1, l2, n1, n2, n3⟩ := x
  obtain ⟨⟨A1, c1⟩, ⟨A2, c2⟩, u1, u2, u3⟩ := y
  obtain ⟨h1, h2, h3, h4, h5⟩ := hok
  exact pL (zZ bw A1 c1 l1 (Nat.le_trans h1.1 h1.2) A2 c2 l2 (Nat.le_trans h2.1 h2.2) n1 h3 n2 h4 n3 h5) (by simp only [Cod.enc, fY, List.append_assoc]) rfl
theorem wN {w0 : World} (bw : Nat) (x0 : Int) (hx0 : dD x0) (x1 : Int) (hx1 : dD x1) (Ax2 : Option Addr) (cx2 : Nat) (x2 : List Int) (hx2 : x2.length ≤ 9223372036854775807) (x3 : Bool) (Ax4 : Option Addr) (cx4 : Nat) (x4 : List Int) (hx4 : x4.length ≤ 9223372036854775807) (x5 : Bool) (x6 : Int) (hx6 : dD x6) : Wf Tryz.prog w0 [Sl (.slice Ax2 x2.length cx2) x2, Sl (.slice Ax4 x4.length cx4) x4] 83 [.pointer (some ⟨bw, 0, none⟩), .agg #[.int .i64 x0, .int .i64 x1, .slice Ax2 x2.length cx2, .bool x3, .slice Ax4 x4.length cx4, .bool x5, .int .i64 x6]] bw (cL x0 ++ (cL x1 ++ (fY x2 ++ (gN x3 ++ (fY x4 ++ (gN x5 ++ (cL x6))))))) := by
  intro H R K bs v hsub hb hk
  have hb0 := hb
  clear hb
  have hS0 : Sl (.slice Ax2 x2.length cx2) x2 ∈ R := hsub _ (by simp)
  have hS1 : Sl (.slice Ax4 x4.length cx4) x4 ∈ R := hsub _ (by simp)
  clear hsub
  refine bX Tryz.func83 rfl Tryz.ntmps83 eZ ?_
  apply aF; apply aA
  repeat' ((refine bG rfl rfl ?_; ((refine eB cW (fun b => ?_))); refine aB ?_))
  revert b
  intro bx
  apply aG; apply aD
  refine eS 0 rfl ?_
  refine iI rZ ?_
  repeat' (first | (apply aF) | (apply aA) | (apply aP; exact rfl; ((refine aQ rfl cJ rfl ?_)); refine aB ?_) | (refine aE rfl rfl ?_; ((first | refine aH ?_ | refine aC rfl ?_)); refine aB ?_))
  refine eK rfl rfl (cX bw x0 hx0) (fun _ h => (by cases h)) rfl rfl (dA hb0) (fun bs1 v1 h1 => ?_)
  refine aB ?_
  have hb1 := dB h1 hb0
  repeat' (first | (apply aF) | (apply aA) | (apply aG) | (apply aD) | (apply aP; exact rfl; ((refine aQ rfl cJ rfl ?_)); refine aB ?_) | (refine aE rfl rfl ?_; ((first | refine aH ?_ | refine aC rfl ?_)); refine aB ?_))
  refine eK rfl rfl (cX bw x1 hx1) (fun _ h => (by cases h)) rfl rfl (dA hb1) (fun bs2 v2 h2 => ?_)
  refine aB ?_
  have hb2 := dB h2 hb1
  repeat' (first | (apply aF) | (apply aA) | (apply aG) | (apply aD) | (apply aP; exact rfl; ((refine aQ rfl cJ rfl ?_)); refine aB ?_) | (refine aE rfl rfl ?_; ((first | refine aH ?_ | refine aC rfl ?_)); refine aB ?_))
  refine eK rfl rfl (jK bw Ax2 cx2 x2 hx2) (bL aV (fun _ h => (by cases h))) rfl rfl (dA hb2) (fun bs3 v3 h3 => ?_)
  refine aB ?_
  have hb3 := dB h3 hb2
  repeat' (first | (apply aF) | (apply aA) | (apply aG) | (apply aD) | (apply aP; exact rfl; ((refine aQ rfl cJ rfl ?_)); refine aB ?_) | (refine aE rfl rfl ?_; ((first | refine aH ?_ | refine aC rfl ?_)); refine aB ?_))
  refine eK rfl rfl (mO bw x3) (fun _ h => (by cases h)) rfl rfl (dA hb3) (fun bs4 v4 h4 => ?_)
  refine aB ?_
  have hb4 := dB h4 hb3
  repeat' (first | (apply aF) | (apply aA) | (apply aG) | (apply aD) | (apply aP; exact rfl; ((refine aQ rfl cJ rfl ?_)); refine aB ?_) | (refine aE rfl rfl ?_; ((first | refine aH ?_ | refine aC rfl ?_)); refine aB ?_))
  refine eK rfl rfl (jK bw Ax4 cx4 x4 hx4) (bL aV (fun _ h => (by cases h))) rfl rfl (dA hb4) (fun bs5 v5 h5 => ?_)
  refine aB ?_
  have hb5 := dB h5 hb4
  repeat' (first | (apply aF) | (apply aA) | (apply aG) | (apply aD) | (apply aP; exact rfl; ((refine aQ rfl cJ rfl ?_)); refine aB ?_) | (refine aE rfl rfl ?_; ((first | refine aH ?_ | refine aC rfl ?_)); refine aB ?_))
  refine eK rfl rfl (mO bw x5) (fun _ h => (by cases h)) rfl rfl (dA hb5) (fun bs6 v6 h6 => ?_)
  refine aB ?_
  have hb6 := dB h6 hb5
  repeat' (first | (apply aA) | (apply aG) | (apply aD) | (apply aP; exact rfl; ((refine aQ rfl cJ rfl ?_)); refine aB ?_) | (refine aE rfl rfl ?_; ((first | refine aH ?_ | refine aC rfl ?_)); refine aB ?_))
  refine eK rfl rfl (cX bw x6 hx6) (fun _ h => (by cases h)) rfl rfl hb6 (fun bs7 v7 h7 => ?_)
  refine aB ?_
  repeat' ((apply aG))
  exact bC (.inr rfl) (fV rfl) (cG (.row v7 5 1 bs7.length (bA bs7) :: .blk bw [v7] 90 :: H) R (fun w hs => hs.weaken bU cZ) (hk bs7 v7 (h1.trans (h2.trans (h3.trans (h4.trans (h5.trans (h6.trans h7))))))))
theorem wD {w0 : World} (bw : Nat) (x : oI) (y : Unp.Y oI) (hok : Unp.ok x y) : Wf Tryz.prog w0 (Unp.fs x y) 83 [.pointer (some ⟨bw, 0, none⟩), .agg (Unp.cs x y).toArray] bw (Cod.enc x) := by
  obtain ⟨n1, n2, l1, b1, l2, b2, n3⟩ := x
  obtain ⟨u1, u2, ⟨A1, c1⟩, u3, ⟨A2, c2⟩, u4, u5⟩ := y
  obtain ⟨h1, h2, h3, _, h4, _, h5⟩ := hok
  exact pL (wN bw n1 h1 n2 h2 A1 c1 l1 (Nat.le_trans h3.1 h3.2) b1 A2 c2 l2 (Nat.le_trans h4.1 h4.2) b2 n3 h5) (by simp only [Cod.enc, fY, List.append_assoc]) rfl
theorem zS {w0 : World} (bw : Nat) (x0 : Int) (hx0 : dD x0) (x1 : Int) (hx1 : dD x1) (x2 : Int) (hx2 : dD x2) (x3 : Int) (hx3 : dD x3) (Ax4 : Option Addr) (cx4 : Nat) (x4 : List Tm) (hx4 : x4.length ≤ 9223372036854775807) (x5 : ByteArray) (hx5 : x5.size ≤ 9223372036854775807) (Ax6 : Option Addr) (cx6 : Nat) (x6 : List Tm) (hx6 : x6.length ≤ 9223372036854775807) : Wf Tryz.prog w0 [Sl (.slice Ax4 x4.length cx4) x4, Sl (.slice Ax6 x6.length cx6) x6] 84 [.pointer (some ⟨bw, 0, none⟩), .agg #[.int .i64 x0, .int .i64 x1, .int .i64 x2, .int .i64 x3, .slice Ax4 x4.length cx4, .string x5, .slice Ax6 x6.length cx6]] bw (cL x0 ++ (cL x1 ++ (cL x2 ++ (cL x3 ++ ((cL x4.length ++ x4.flatMap Tm.enc) ++ (gY x5 ++ ((cL x6.length ++ x6.flatMap Tm.enc)))))))) := by
  intro H R K bs v hsub hb hk
  have hb0 := hb
  clear hb
  have hS0 : Sl (.slice Ax4 x4.length cx4) x4 ∈ R := hsub _ (by simp)
  have hS1 : Sl (.slice Ax6 x6.length cx6) x6 ∈ R := hsub _ (by simp)
  clear hsub
  refine bX Tryz.func84 rfl Tryz.ntmps84 eZ ?_
  apply aF; apply aA
  repeat' ((refine bG rfl rfl ?_; ((refine eB cW (fun b => ?_))); refine aB ?_))
  revert b
  intro bx
  apply aG; apply aD
  refine eS 0 rfl ?_
  refine iI rZ ?_
  repeat' (first | (apply aF) | (apply aA) | (apply aP; exact rfl; ((refine aQ rfl cJ rfl ?_)); refine aB ?_) | (refine aE rfl rfl ?_; ((first | refine aH ?_ | refine aC rfl ?_)); refine aB ?_))
  refine eK rfl rfl (cX bw x0 hx0) (fun _ h => (by cases h)) rfl rfl (dA hb0) (fun bs1 v1 h1 => ?_)
  refine aB ?_
  have hb1 := dB h1 hb0
  repeat' (first | (apply aF) | (apply aA) | (apply aG) | (apply aD) | (apply aP; exact rfl; ((refine aQ rfl cJ rfl ?_)); refine aB ?_) | (refine aE rfl rfl ?_; ((first | refine aH ?_ | refine aC rfl ?_)); refine aB ?_))
  refine eK rfl rfl (cX bw x1 hx1) (fun _ h => (by cases h)) rfl rfl (dA hb1) (fun bs2 v2 h2 => ?_)
  refine aB ?_
  have hb2 := dB h2 hb1
  repeat' (first | (apply aF) | (apply aA) | (apply aG) | (apply aD) | (apply aP; exact rfl; ((refine aQ rfl cJ rfl ?_)); refine aB ?_) | (refine aE rfl rfl ?_; ((first | refine aH ?_ | refine aC rfl ?_)); refine aB ?_))
  refine eK rfl rfl (cX bw x2 hx2) (fun _ h => (by cases h)) rfl rfl (dA hb2) (fun bs3 v3 h3 => ?_)
  refine aB ?_
  have hb3 := dB h3 hb2
  repeat' (first | (apply aF) | (apply aA) | (apply aG) | (apply aD) | (apply aP; exact rfl; ((refine aQ rfl cJ rfl ?_)); refine aB ?_) | (refine aE rfl rfl ?_; ((first | refine aH ?_ | refine aC rfl ?_)); refine aB ?_))
  refine eK rfl rfl (cX bw x3 hx3) (fun _ h => (by cases h)) rfl rfl (dA hb3) (fun bs4 v4 h4 => ?_)
  refine aB ?_
  have hb4 := dB h4 hb3
  repeat' (first | (apply aF) | (apply aA) | (apply aG) | (apply aD) | (apply aP; exact rfl; ((refine aQ rfl cJ rfl ?_)); refine aB ?_) | (refine aE rfl rfl ?_; ((first | refine aH ?_ | refine aC rfl ?_)); refine aB ?_))
  refine eK rfl rfl (mV bw Ax4 cx4 x4 hx4) (bL aV (fun _ h => (by cases h))) rfl rfl (dA hb4) (fun bs5 v5 h5 => ?_)
  refine aB ?_
  have hb5 := dB h5 hb4
  repeat' (first | (refine aP rfl ?_; refine aQ (o := 0) (q := 5) rfl aV rfl ?_; refine aB ?_) | (apply aF) | (apply aA) | (apply aG) | (apply aD) | (refine aE rfl rfl ?_; ((first | refine aH ?_ | refine aC rfl ?_)); refine aB ?_))
  refine eK rfl rfl (tN bw x5) (fun _ h => (by cases h)) rfl rfl (dA hb5) (fun bs6 v6 h6 => ?_)
  refine aB ?_
  have hb6 := dB h6 hb5
  repeat' (first | (refine aP rfl ?_; refine aQ (o := 0) (q := 6) rfl aV rfl ?_; refine aB ?_) | (apply aA) | (apply aG) | (apply aD) | (refine aE rfl rfl ?_; ((first | refine aH ?_ | refine aC rfl ?_)); refine aB ?_))
  refine eK rfl rfl (mV bw Ax6 cx6 x6 hx6) (bL aV (fun _ h => (by cases h))) rfl rfl hb6 (fun bs7 v7 h7 => ?_)
  refine aB ?_
  repeat' ((apply aG))
  exact bC (.inr rfl) (fV rfl) (cG (.row v7 5 1 bs7.length (bA bs7) :: .blk bw [v7] 90 :: H) R (fun w hs => hs.weaken bU cZ) (hk bs7 v7 (h1.trans (h2.trans (h3.trans (h4.trans (h5.trans (h6.trans h7))))))))
theorem r5 {w0 : World} (bw : Nat) (x : nZ) (y : Unp.Y nZ) (hok : Unp.ok x y) : Wf Tryz.prog w0 (Unp.fs x y) 84 [.pointer (some ⟨bw, 0, none⟩), .agg (Unp.cs x y).toArray] bw (Cod.enc x) := by
  obtain ⟨n1, n2, n3, n4, l1, nm, l2⟩ := x
  obtain ⟨u1, u2, u3, u4, ⟨A1, c1⟩, u5, ⟨A2, c2⟩⟩ := y
  obtain ⟨h1, h2, h3, h4, h5, h6, h7⟩ := hok
  exact pL (zS bw n1 h1 n2 h2 n3 h3 n4 h4 A1 c1 l1 (Nat.le_trans h5.1 h5.2) nm h6 A2 c2 l2 (Nat.le_trans h7.1 h7.2)) (by simp only [Cod.enc, fY, List.append_assoc]) rfl
theorem rval_x {w0 : World} (bw : Nat) (x0 : Int) (hx0 : dD x0) (x1 : ByteArray) (hx1 : x1.size ≤ 9223372036854775807) (Ax2 : Option Addr) (cx2 : Nat) (x2 : List Tp) (hx2 : x2.length ≤ 9223372036854775807) (x3 : Bool) (x4 : Int) (hx4 : dD x4) (x5 : Int) (hx5 : dD x5) (x6 : ByteArray) (hx6 : x6.size ≤ 9223372036854775807) (Ax7 : Option Addr) (cx7 : Nat) (x7 : List Tm) (hx7 : x7.length ≤ 9223372036854775807) : Wf Tryz.prog w0 [Sl (.slice Ax2 x2.length cx2) x2, Sl (.slice Ax7 x7.length cx7) x7] 85 [.pointer (some ⟨bw, 0, none⟩), .agg #[.int .i64 x0, .string x1, .slice Ax2 x2.length cx2, .bool x3, .int .i64 x4, .int .i64 x5, .string x6, .slice Ax7 x7.length cx7]] bw (cL x0 ++ (Tp.enc (.mk x1 x2) ++ (gN x3 ++ (Tm.enc (.mk x4 x5 x6 x7))))) := by
  intro H R K bs v hsub hb hk
  have hb0 := hb
  clear hb
  have hS0 : Sl (.slice Ax2 x2.length cx2) x2 ∈ R := hsub _ (by simp)
  have hS1 : Sl (.slice Ax7 x7.length cx7) x7 ∈ R := hsub _ (by simp)
  clear hsub
  refine bX Tryz.func85 rfl Tryz.ntmps85 eZ ?_
  apply aF; apply aA
  repeat' ((refine bG rfl rfl ?_; ((refine eB cW (fun b => ?_))); refine aB ?_))
  revert b
  intro bx
  apply aG; apply aD
  refine eS 0 rfl ?_
  refine iI rZ ?_
  repeat' (first | (apply aF) | (apply aA) | (apply aP; exact rfl; ((refine aQ rfl cJ rfl ?_)); refine aB ?_) | (refine aE rfl rfl ?_; ((first | refine aH ?_ | refine aC rfl ?_)); refine aB ?_))
  refine eK rfl rfl (cX bw x0 hx0) (fun _ h => (by cases h)) rfl rfl (dA hb0) (fun bs1 v1 h1 => ?_)
  refine aB ?_
  have hb1 := dB h1 hb0
  repeat' (first | (apply aF) | (apply aA) | (apply aG) | (apply aD) | (apply aP; exact rfl; ((refine aQ rfl cJ rfl ?_)); refine aB ?_) | (refine aE rfl rfl ?_; ((first | refine aH ?_ | refine aC rfl ?_)); refine aB ?_))
  refine eK rfl rfl (rtyp_w bw (.mk x1 x2) (Ax2, cx2) ⟨hx1, hx2⟩) (bL aV (fun _ h => (by cases h))) rfl rfl (dA hb1) (fun bs2 v2 h2 => ?_)
  refine aB ?_
  have hb2 := dB h2 hb1
  repeat' (first | (apply aF) | (apply aA) | (apply aG) | (apply aD) | (apply aP; exact rfl; ((refine aQ rfl cJ rfl ?_)); refine aB ?_) | (refine aE rfl rfl ?_; ((first | refine aH ?_ | refine aC rfl ?_)); refine aB ?_))
  refine eK rfl rfl (mO bw x3) (fun _ h => (by cases h)) rfl rfl (dA hb2) (fun bs3 v3 h3 => ?_)
  refine aB ?_
  have hb3 := dB h3 hb2
  repeat' (first | (apply aA) | (apply aG) | (apply aD) | (apply aP; exact rfl; ((refine aQ rfl cJ rfl ?_)); refine aB ?_) | (refine aE rfl rfl ?_; ((first | refine aH ?_ | refine aC rfl ?_)); refine aB ?_))
  refine eK rfl rfl (xL bw (.mk x4 x5 x6 x7) (Ax7, cx7) ⟨hx4, hx5, hx6, hx7⟩) (bL aV (fun _ h => (by cases h))) rfl rfl hb3 (fun bs4 v4 h4 => ?_)
  refine aB ?_
  repeat' ((apply aG))
  exact bC (.inr rfl) (fV rfl) (cG (.row v4 5 1 bs4.length (bA bs4) :: .blk bw [v4] 90 :: H) R (fun w hs => hs.weaken bU cZ) (hk bs4 v4 (h1.trans (h2.trans (h3.trans h4)))))
theorem e8 {w0 : World} (bw : Nat) (x : kZ) (y : Unp.Y kZ) (hok : Unp.ok x y) : Wf Tryz.prog w0 (Unp.fs x y) 85 [.pointer (some ⟨bw, 0, none⟩), .agg (Unp.cs x y).toArray] bw (Cod.enc x) := by
  obtain ⟨n1, ⟨tn, tx⟩, bo, ⟨k, i, kn, kx⟩⟩ := x
  obtain ⟨u1, ⟨A1, c1⟩, u3, ⟨A2, c2⟩⟩ := y
  obtain ⟨h1, ⟨h2, h3⟩, _, h4, h5, h6, h7⟩ := hok
  exact pL (rval_x bw n1 h1 tn h2 A1 c1 tx h3 bo k h4 i h5 kn h6 A2 c2 kx h7) (by simp only [Cod.enc, fY, List.append_assoc]) rfl
end Go.Proofs.YtggdljhmbckpmaaGreat
