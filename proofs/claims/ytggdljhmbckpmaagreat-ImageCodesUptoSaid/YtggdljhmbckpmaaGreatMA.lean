/- Structs written: walks, printed by gen_wr.py. Structs written: walks, printed by gen_wr.py. Structs written: walks, printed by gen_wr.py. Encode: walk, of any state. -/
import Derived.Test.YtggdljhmbckpmaaGreatEC
import Derived.Test.YtggdljhmbckpmaaGreatEB
import Derived.Test.YtggdljhmbckpmaaGreatDA
import Derived.Test.YtggdljhmbckpmaaGreatAN
set_option linter.unusedVariables false
set_option linter.unusedSimpArgs false
namespace Go.Proofs.YtggdljhmbckpmaaGreat
open Go Go.RowKit
set_option maxRecDepth 100000
set_option maxHeartbeats 1600000

theorem wQ {w0 : World} (bw : Nat) (s : ByteArray) (hs : s.size ≤ 9223372036854775807) : Wr Tryz.prog w0 [] 125 [.pointer (some ⟨bw, 0, none⟩), .string s] bw (gY s) := by
  intro H R K KP bs v hsub hb hk hp
  have hIx : dD (s.size : Int) := by simp only [dD]; omega
  have hsl : s.data.toList.length = s.size := rfl
  rw [gY, List.length_append] at hk hp
  refine cP Tryz.func125 rfl Tryz.ntmps125 eZ ?_
  repeat' (first | (apply aF) | (apply aA) | (refine aE rfl rfl ?_; ((first | refine aH ?_ | refine kK rfl ?_)); refine aB ?_))
  refine fB rfl rfl (fJ bw s.size hIx) (fun _ h => (by cases h)) rfl rfl hb (fun hle v2 => ?_) (fun hgt => ?_)
  rotate_left
  · skip
    repeat' ((apply aL))
    exact aN (cH H R (fun w hs => hs) (hp (by omega)))
  refine aB ?_
  repeat' (first | (apply aF) | (apply aA) | (apply aT) | (apply aG) | (apply aD) | (refine aE rfl rfl ?_; ((first | refine aH ?_ | refine kK rfl ?_)); refine aB ?_))
  refine cK [4, 11, 12, 13, 14, 15, 16, 17, 18, 19] (fun m j H2 R2 => ∃ (i : Nat) (bs' : List UInt8) (v' : Value), i + m = s.size ∧ j 11 = .int .i64 (i : Int) ∧ R2 = R ∧ H2 = .row v' 5 1 bs'.length (bA bs') :: .blk bw [v'] 85 :: H ∧ bs'.length ≤ 250000 ∧ bs' ++ s.data.toList.drop i = bs ++ (cL s.size ++ s.data.toList)) s.size eE ⟨0, bs ++ cL s.size, v2, by omega, rfl, rfl, rfl, by rw [List.length_append]; exact hle, by rw [List.append_assoc]; rfl⟩ ?_
  rintro m j' H2 R2 ⟨i, bs', v', him, h11, hR2, hH2, hb', hle2⟩
  subst hH2 hR2
  refine cQ (by simp only [dX, List.foldl_cons, List.foldl_nil, List.set_cons_succ, List.set_cons_zero, h11]; rfl) ?_
  have hlen : bs'.length + (s.data.toList.drop i).length = bs.length + ((cL s.size).length + s.data.toList.length) := by
    have := congrArg List.length hle2
    simpa only [List.length_append] using this
  rw [List.length_drop] at hlen
  rcases Nat.lt_or_ge i s.size with hlt | hge
  · have hd : s.data.toList.drop i = s.data.toList[i] :: s.data.toList.drop (i + 1) := List.drop_eq_getElem_cons (by omega)
    obtain ⟨ch, hch⟩ : ∃ ch, s.data.toList[i] = ch := ⟨_, rfl⟩
    have hsi : s[((i : Nat) : Int).toNat]? = some ch := by
      rw [Int.toNat_natCast, ← hch]
      have : s[i]? = some s[i] := getElem?_pos s i hlt
      rw [this]; rfl
    rw [hch] at hd
    rw [hd] at hle2
    have HL := Go.Lib.hid hle2
    clear hle2 hd
    repeat' (first | (refine aE rfl rfl ?_; refine fL (c := ch) rfl rfl (by omega) hsi ?_; refine aB ?_) | (apply aF) | (apply aA) | (apply aT) | (apply bE) | (apply aK; exact rfl) | (apply aG) | (apply aD) | (apply aU; exact rfl; ((refine bM rfl rfl (fun h => ?_) (fun h => ?_))) <;> (first | (exfalso; omega) | refine aB ?_)) | (refine aE rfl rfl ?_; ((first | refine aH ?_ | refine aX ?_)); refine aB ?_))
    refine fB rfl rfl (mU bw ch) (fun _ h => (by cases h)) rfl rfl hb' (fun hle v3 => ?_) (fun hgt => ?_)
    · refine aB ?_
      repeat' (first | (apply aA) | (apply aG) | (apply aD) | (apply bP) | (apply aU; exact rfl; ((refine bI rfl rfl (by omega) (by omega) ?_)); refine aB ?_) | (refine aE rfl rfl ?_; ((refine aH ?_)); refine aB ?_))
      refine cE (m - 1) _ R2 (by omega) eE ⟨i + 1, bs' ++ [ch], v3, by omega, rfl, rfl, rfl, by rw [List.length_append]; exact hle, ?_⟩ (fun w hs => hs)
      rw [← HL.out]; simp
    · skip
      repeat' (first | (apply aL) | (apply bY))
      refine aN (cH H R2 (fun w hs => hs) (hp (by simp only [List.length_singleton] at hgt; omega)))
  · rw [List.drop_of_length_le (by omega), List.append_nil] at hle2
    rw [hle2] at hb' ⊢
    repeat' (first | (apply aF) | (apply aA) | (apply bV) | (apply aI; exact rfl) | (apply aG) | (apply aD) | (apply aS) | (apply aR) | (apply aU; exact rfl; ((refine bM rfl rfl (fun h => ?_) (fun h => ?_))) <;> (first | (exfalso; omega) | refine aB ?_)))
    refine bC (.inr rfl) (fV rfl) (eI _ R2 (fun w hs => hs) (hk (by rw [List.length_append, List.length_append] at hb'; exact hb') v'))
theorem lZ {P : Program} {w0 : World} {R0 R1 : List MP} {f : FuncId} {args : List Value} {bw : Nat} {out out' : List UInt8} (h : Wr P w0 R0 f args bw out) (e : out = out') (hR : R0 = R1) : Wr P w0 R1 f args bw out' := by
  subst e hR; exact h
theorem typ_wn {w0 : World} (bw : Nat) : ∀ n : Nat, ∀ (nm : ByteArray) (hnm : nm.size ≤ 9223372036854775807) (Al : Option Addr) (cl : Nat) (l : List Tp) (hl : l.length ≤ 9223372036854775807), SizeOf.sizeOf (Tp.mk nm l) < n → Wr Tryz.prog w0 [Sl (.slice Al l.length cl) l] 126 [.pointer (some ⟨bw, 0, none⟩), .agg #[.string nm, .slice Al l.length cl]] bw (gY nm ++ ((cL l.length ++ l.flatMap Tp.enc))) := by
  intro n
  induction n with
  | zero => exact fun nm hnm Al cl l hl h => absurd h (Nat.not_lt_zero _)
  | succ n ih =>
  intro nm hnm Al cl l hl hsz
  have ih' : ∀ x ∈ l, ∀ y : Unp.Y Tp, Unp.ok x y → Wr Tryz.prog w0 (Unp.fs x y ++ []) 126 ([.pointer (some ⟨bw, 0, none⟩)] ++ [.agg (Unp.cs x y).toArray] ++ []) bw (Tp.enc x) := by
    intro x hx y hy
    have hlt := List.sizeOf_lt_of_mem hx
    obtain ⟨nm', l'⟩ := x
    exact lZ (ih nm' hy.1 y.1 y.2 l' hy.2 (by simp only [Tp.mk.sizeOf_spec] at hsz hlt ⊢; omega)) (Tp.enc_eq _ _).symm rfl
  intro H R K KP bs v hsub hb hk hp
  try simp only [List.length_append] at hp
  refine cP Tryz.func126 rfl Tryz.ntmps126 eZ ?_
  apply aF; apply aA
  repeat' ((refine bG rfl rfl ?_; ((refine eB cW (fun b => ?_))); refine aB ?_))
  apply aG; apply aD
  refine eS 0 rfl ?_
  refine iI rZ ?_
  have hS0 : Sl (.slice Al l.length cl) l ∈ R := hsub _ (by simp)
  clear hsub
  repeat' (first | (apply aF) | (apply aA) | (apply aP; exact rfl; ((refine aQ rfl cJ rfl ?_)); refine aB ?_) | (refine aE rfl rfl ?_; ((first | refine aH ?_ | refine aC rfl ?_)); refine aB ?_))
  refine fB rfl rfl (wQ bw nm hnm) (fun _ h => (by cases h)) rfl rfl hb (fun hle0 v0 => ?_) (fun hgt => ?_)
  rotate_left
  · skip
    repeat' ((apply aL))
    exact aN (cH H R (fun w hs => hs.weaken bU cZ) (hp (by (omega))))
  refine aB ?_
  repeat' (first | (apply aA) | (apply aG) | (apply aD) | (apply aP; exact rfl; ((refine aQ rfl cJ rfl ?_)); refine aB ?_) | (refine aE rfl rfl ?_; ((first | refine aH ?_ | refine aC rfl ?_ | refine cM gP gP ?_)); refine aB ?_))
  refine fB rfl rfl (i3 rfl UnpL.len UnpL.one bw Al cl l 126 [.pointer (some ⟨bw, 0, none⟩)] [] Tp.enc [] hl ih') (bL aV (fun _ h => (by cases h))) rfl rfl (by rw [List.length_append]; exact hle0) (fun hle1 v1 => ?_) (fun hgt => ?_)
  rotate_left
  · skip
    repeat' (fail)
    exact aN (cH H R (fun w hs => hs.weaken bU cZ) (hp (by ((simp only [List.length_append] at hgt ⊢; omega)))))
  refine aB ?_
  repeat' ((apply aG))
  refine bC (.inr rfl) (fV rfl) (eI _ R (fun w hs => ?_) (hk (by ((simp only [List.length_append] at hle1 ⊢; omega))) v1))
  try simp only [List.append_assoc] at hs ⊢
  exact hs.weaken bU cZ
theorem typ_w {w0 : World} (bw : Nat) (x : Tp) (y : Unp.Y Tp) (hok : Unp.ok x y) : Wr Tryz.prog w0 (Unp.fs x y) 126 [.pointer (some ⟨bw, 0, none⟩), .agg (Unp.cs x y).toArray] bw x.enc := by
  obtain ⟨nm, l⟩ := x
  exact lZ (typ_wn bw _ nm hok.1 y.1 y.2 l hok.2 (Nat.lt_succ_self _)) (Tp.enc_eq _ _).symm rfl
theorem aB1 {w0 : World} (bw : Nat) : ∀ n : Nat, ∀ (k : Int) (hk : dD k) (i : Int) (hi : dD i) (nm : ByteArray) (hnm : nm.size ≤ 9223372036854775807) (Al : Option Addr) (cl : Nat) (l : List Tm) (hl : l.length ≤ 9223372036854775807), SizeOf.sizeOf (Tm.mk k i nm l) < n → Wr Tryz.prog w0 [Sl (.slice Al l.length cl) l] 124 [.pointer (some ⟨bw, 0, none⟩), .agg #[.int .i64 k, .int .i64 i, .string nm, .slice Al l.length cl]] bw ([k, i].flatMap cL ++ (gY nm ++ ((cL l.length ++ l.flatMap Tm.enc)))) := by
  intro n
  induction n with
  | zero => exact fun k hk i hi nm hnm Al cl l hl h => absurd h (Nat.not_lt_zero _)
  | succ n ih =>
  intro k hIk i hi nm hnm Al cl l hl hsz
  have ih' : ∀ x ∈ l, ∀ y : Unp.Y Tm, Unp.ok x y → Wr Tryz.prog w0 (Unp.fs x y ++ []) 124 ([.pointer (some ⟨bw, 0, none⟩)] ++ [.agg (Unp.cs x y).toArray] ++ []) bw (Tm.enc x) := by
    intro x hx y hy
    have hlt := List.sizeOf_lt_of_mem hx
    obtain ⟨k', i', nm', l'⟩ := x
    exact lZ (ih k' hy.1 i' hy.2.1 nm' hy.2.2.1 y.1 y.2 l' hy.2.2.2 (by simp only [Tm.mk.sizeOf_spec] at hsz hlt ⊢; omega)) (by rw [Tm.enc_eq]; simp only [List.flatMap_cons, List.flatMap_nil, List.append_nil, List.append_assoc]) rfl
  intro H R K KP bs v hsub hb hk hp
  try simp only [List.length_append] at hp
  refine cP Tryz.func124 rfl Tryz.ntmps124 eZ ?_
  apply aF; apply aA
  repeat' ((refine bG rfl rfl ?_; ((refine eB cW (fun b => ?_))); refine aB ?_))
  apply aG; apply aD
  refine eS 0 rfl ?_
  refine iI rZ ?_
  have hS0 : Sl (.slice Al l.length cl) l ∈ R := hsub _ (by simp)
  clear hsub
  repeat' (first | (apply aF) | (apply aA) | (apply aP; exact rfl; ((refine aQ rfl cJ rfl ?_)); refine aB ?_) | (refine aE rfl rfl ?_; ((first | refine aH ?_ | refine aC rfl ?_)); refine aB ?_) | (refine bG rfl rfl ?_; ((refine bH (by decide) fD rfl (fun b => ?_))); refine aB ?_))
  refine mI [k, i] rfl (by intro x hx; simp only [List.mem_cons, List.not_mem_nil, or_false] at hx; rcases hx with rfl | rfl <;> assumption) (by simp) ?_
  repeat' (fail)
  refine fB rfl rfl (iT bw (some ⟨b, 0, none⟩) 2 [k, i] (by simp)) (bL List.mem_cons_self (fun _ h => (by cases h))) rfl rfl hb (fun hle0 v0 => ?_) (fun hgt => ?_)
  rotate_left
  · skip
    repeat' ((apply aL))
    exact aN (cH H R (fun w hs => hs.weaken bU cZ) (hp (by (omega))))
  refine aB ?_
  repeat' (first | (apply aF) | (apply aA) | (apply aG) | (apply aD) | (apply aP; exact rfl; ((refine aQ rfl cJ rfl ?_)); refine aB ?_) | (refine aE rfl rfl ?_; ((first | refine aH ?_ | refine aC rfl ?_)); refine aB ?_))
  refine fB rfl rfl (wQ bw nm hnm) (fun _ h => (by cases h)) rfl rfl (by rw [List.length_append]; exact hle0) (fun hle1 v1 => ?_) (fun hgt => ?_)
  rotate_left
  · skip
    repeat' ((apply aL))
    exact aN (cH H R (fun w hs => hs.weaken bU cZ) (hp (by ((simp only [List.length_append] at hgt ⊢; omega)))))
  refine aB ?_
  repeat' (first | (apply aA) | (apply aG) | (apply aD) | (apply aP; exact rfl; ((refine aQ rfl cJ rfl ?_)); refine aB ?_) | (refine aE rfl rfl ?_; ((first | refine aH ?_ | refine aC rfl ?_ | refine cM gP gP ?_)); refine aB ?_))
  refine fB rfl rfl (kU rfl UnpL.len UnpL.one bw Al cl l 124 [.pointer (some ⟨bw, 0, none⟩)] [] Tm.enc [] hl ih') (bL aV (fun _ h => (by cases h))) rfl rfl (by rw [List.length_append]; exact hle1) (fun hle2 v2 => ?_) (fun hgt => ?_)
  rotate_left
  · skip
    repeat' (fail)
    exact aN (cH H R (fun w hs => hs.weaken bU cZ) (hp (by ((simp only [List.length_append] at hgt ⊢; omega)))))
  refine aB ?_
  repeat' ((apply aG))
  refine bC (.inr rfl) (fV rfl) (eI _ R (fun w hs => ?_) (hk (by ((simp only [List.length_append] at hle2 ⊢; omega))) v2))
  try simp only [List.append_assoc] at hs ⊢
  exact hs.weaken bU cZ
theorem qA {w0 : World} (bw : Nat) (x : Tm) (y : Unp.Y Tm) (hok : Unp.ok x y) : Wr Tryz.prog w0 (Unp.fs x y) 124 [.pointer (some ⟨bw, 0, none⟩), .agg (Unp.cs x y).toArray] bw x.enc := by
  obtain ⟨k, i, nm, l⟩ := x
  exact lZ (aB1 bw _ k hok.1 i hok.2.1 nm hok.2.2.1 y.1 y.2 l hok.2.2.2 (Nat.lt_succ_self _)) (by rw [Tm.enc_eq]; simp only [List.flatMap_cons, List.flatMap_nil, List.append_nil, List.append_assoc]) rfl
end Go.Proofs.YtggdljhmbckpmaaGreat
namespace Go.Proofs.YtggdljhmbckpmaaGreat
open Go Go.RowKit
set_option maxRecDepth 100000
set_option maxHeartbeats 1600000

theorem s9 {w0 : World} (bw : Nat) (Al1 : Option Addr) (cl1 : Nat) (l1 : List Tm) (hl1 : l1.length ≤ 9223372036854775807) (Al2 : Option Addr) (cl2 : Nat) (l2 : List Tm) (hl2 : l2.length ≤ 9223372036854775807) (n1 : Int) (hn1 : dD n1) (n2 : Int) (hn2 : dD n2) (n3 : Int) (hn3 : dD n3) : Wr Tryz.prog w0 [Sl (.slice Al1 l1.length cl1) l1, Sl (.slice Al2 l2.length cl2) l2] 70 [.pointer (some ⟨bw, 0, none⟩), .agg #[.slice Al1 l1.length cl1, .slice Al2 l2.length cl2, .int .i64 n1, .int .i64 n2, .int .i64 n3]] bw ((cL l1.length ++ l1.flatMap Tm.enc) ++ ((cL l2.length ++ l2.flatMap Tm.enc) ++ ([n1, n2, n3].flatMap cL))) := by
  intro H R K KP bs v hsub hb hk hp
  try simp only [List.length_append] at hp
  refine cP Tryz.func70 rfl Tryz.ntmps70 eZ ?_
  apply aF; apply aA
  repeat' ((refine bG rfl rfl ?_; ((refine eB cW (fun b => ?_))); refine aB ?_))
  apply aG; apply aD
  refine eS 0 rfl ?_
  refine iI rZ ?_
  have hS0 : Sl (.slice Al1 l1.length cl1) l1 ∈ R := hsub _ (by simp)
  have hS1 : Sl (.slice Al2 l2.length cl2) l2 ∈ R := hsub _ (by simp)
  clear hsub
  repeat' (first | (apply aF) | (apply aA) | (apply aP; exact rfl; ((refine aQ rfl cJ rfl ?_)); refine aB ?_) | (refine aE rfl rfl ?_; ((first | refine aH ?_ | refine aC rfl ?_ | refine cM gP gP ?_)); refine aB ?_))
  refine fB rfl rfl (kU rfl UnpL.len UnpL.one bw Al1 cl1 l1 124 [.pointer (some ⟨bw, 0, none⟩)] [] Tm.enc [] hl1 (fun x hx y hy => by rw [List.append_nil]; exact qA bw x y hy)) (bL aV (fun _ h => (by cases h))) rfl rfl hb (fun hle0 v0 => ?_) (fun hgt => ?_)
  rotate_left
  · skip
    repeat' ((apply aL))
    exact aN (cH H R (fun w hs => hs.weaken bU cZ) (hp (by ((simp only [List.length_append] at hgt ⊢; omega)))))
  refine aB ?_
  repeat' (first | (apply aF) | (apply aA) | (apply aG) | (apply aD) | (apply aP; exact rfl; ((refine aQ rfl cJ rfl ?_)); refine aB ?_) | (refine aE rfl rfl ?_; ((first | refine aH ?_ | refine aC rfl ?_ | refine cM gP gP ?_)); refine aB ?_))
  refine fB rfl rfl (kU rfl UnpL.len UnpL.one bw Al2 cl2 l2 124 [.pointer (some ⟨bw, 0, none⟩)] [] Tm.enc [] hl2 (fun x hx y hy => by rw [List.append_nil]; exact qA bw x y hy)) (bL aV (fun _ h => (by cases h))) rfl rfl (by rw [List.length_append]; exact hle0) (fun hle1 v1 => ?_) (fun hgt => ?_)
  rotate_left
  · skip
    repeat' ((apply aL))
    exact aN (cH H R (fun w hs => hs.weaken bU cZ) (hp (by ((simp only [List.length_append] at hgt ⊢; omega)))))
  refine aB ?_
  repeat' (first | (apply aA) | (apply aG) | (apply aD) | (apply aP; exact rfl; ((refine aQ rfl cJ rfl ?_)); refine aB ?_) | (refine aE rfl rfl ?_; ((first | refine aH ?_ | refine aC rfl ?_)); refine aB ?_) | (refine bG rfl rfl ?_; ((refine bH (by decide) fD rfl (fun b => ?_))); refine aB ?_))
  refine mI [n1, n2, n3] rfl (by intro x hx; simp only [List.mem_cons, List.not_mem_nil, or_false] at hx; rcases hx with rfl | rfl | rfl <;> assumption) (by simp) ?_
  repeat' (fail)
  refine fB rfl rfl (iT bw (some ⟨b, 0, none⟩) 3 [n1, n2, n3] (by simp)) (bL List.mem_cons_self (fun _ h => (by cases h))) rfl rfl (by rw [List.length_append]; exact hle1) (fun hle2 v2 => ?_) (fun hgt => ?_)
  rotate_left
  · skip
    repeat' (fail)
    exact aN (cH H R (fun w hs => hs.weaken bU cZ) (hp (by ((simp only [List.length_append] at hgt ⊢; omega)))))
  refine aB ?_
  repeat' ((apply aG))
  refine bC (.inr rfl) (fV rfl) (eI _ R (fun w hs => ?_) (hk (by ((simp only [List.length_append] at hle2 ⊢; omega))) v2))
  try simp only [List.append_assoc] at hs ⊢
  exact hs.weaken bU cZ
theorem w6 {w0 : World} (bw : Nat) (x : oK) (y : Unp.Y oK) (hok : Unp.ok x y) : Wr Tryz.prog w0 (Unp.fs x y) 70 [.pointer (some ⟨bw, 0, none⟩), .agg (Unp.cs x y).toArray] bw (Cod.enc x) := by
  obtain ⟨l1, l2, n1, n2, n3⟩ := x
  obtain ⟨⟨A1, c1⟩, ⟨A2, c2⟩, u1, u2, u3⟩ := y
  obtain ⟨h1, h2, h3, h4, h5⟩ := hok
  exact lZ (s9 bw A1 c1 l1 (Nat.le_trans h1.1 h1.2) A2 c2 l2 (Nat.le_trans h2.1 h2.2) n1 h3 n2 h4 n3 h5) (by simp only [Cod.enc, fY, List.flatMap_cons, List.flatMap_nil, List.append_nil, List.append_assoc]) rfl
theorem xY {w0 : World} (bw : Nat) (n1 : Int) (hn1 : dD n1) (n2 : Int) (hn2 : dD n2) (Al1 : Option Addr) (cl1 : Nat) (l1 : List Int) (hl1 : l1.length ≤ 9223372036854775807) (b1 : Bool) (Al2 : Option Addr) (cl2 : Nat) (l2 : List Int) (hl2 : l2.length ≤ 9223372036854775807) (b2 : Bool) (n3 : Int) (hn3 : dD n3) : Wr Tryz.prog w0 [Sl (.slice Al1 l1.length cl1) l1, Sl (.slice Al2 l2.length cl2) l2] 72 [.pointer (some ⟨bw, 0, none⟩), .agg #[.int .i64 n1, .int .i64 n2, .slice Al1 l1.length cl1, .bool b1, .slice Al2 l2.length cl2, .bool b2, .int .i64 n3]] bw ([n1, n2].flatMap cL ++ (fY l1 ++ (gN b1 ++ (fY l2 ++ (gN b2 ++ (cL n3)))))) := by
  intro H R K KP bs v hsub hb hk hp
  try simp only [List.length_append] at hp
  refine cP Tryz.func72 rfl Tryz.ntmps72 eZ ?_
  apply aF; apply aA
  repeat' ((refine bG rfl rfl ?_; ((refine eB cW (fun b => ?_))); refine aB ?_))
  apply aG; apply aD
  refine eS 0 rfl ?_
  refine iI rZ ?_
  have hS0 : Sl (.slice Al1 l1.length cl1) l1 ∈ R := hsub _ (by simp)
  have hS1 : Sl (.slice Al2 l2.length cl2) l2 ∈ R := hsub _ (by simp)
  clear hsub
  repeat' (first | (apply aF) | (apply aA) | (apply aP; exact rfl; ((refine aQ rfl cJ rfl ?_)); refine aB ?_) | (refine aE rfl rfl ?_; ((first | refine aH ?_ | refine aC rfl ?_)); refine aB ?_) | (refine bG rfl rfl ?_; ((refine bH (by decide) fD rfl (fun b => ?_))); refine aB ?_))
  refine mI [n1, n2] rfl (by intro x hx; simp only [List.mem_cons, List.not_mem_nil, or_false] at hx; rcases hx with rfl | rfl <;> assumption) (by simp) ?_
  repeat' (fail)
  refine fB rfl rfl (iT bw (some ⟨b, 0, none⟩) 2 [n1, n2] (by simp)) (bL List.mem_cons_self (fun _ h => (by cases h))) rfl rfl hb (fun hle0 v0 => ?_) (fun hgt => ?_)
  rotate_left
  · skip
    repeat' ((apply aL))
    exact aN (cH H R (fun w hs => hs.weaken bU cZ) (hp (by (omega))))
  refine aB ?_
  repeat' (first | (apply aF) | (apply aA) | (apply aG) | (apply aD) | (apply aP; exact rfl; ((refine aQ rfl cJ rfl ?_)); refine aB ?_) | (refine aE rfl rfl ?_; ((first | refine aH ?_ | refine aC rfl ?_)); refine aB ?_))
  refine fB rfl rfl (pR bw Al1 cl1 l1 hl1) (bL aV (fun _ h => (by cases h))) rfl rfl (by rw [List.length_append]; exact hle0) (fun hle1 v1 => ?_) (fun hgt => ?_)
  rotate_left
  · skip
    repeat' ((apply aL))
    exact aN (cH H R (fun w hs => hs.weaken bU cZ) (hp (by ((simp only [List.length_append] at hgt ⊢; omega)))))
  refine aB ?_
  repeat' (first | (apply aF) | (apply aA) | (apply aG) | (apply aD) | (apply aP; exact rfl; ((refine aQ rfl cJ rfl ?_)); refine aB ?_) | (refine aE rfl rfl ?_; ((first | refine aH ?_ | refine aC rfl ?_)); refine aB ?_))
  refine fB rfl rfl (oU bw b1) (fun _ h => (by cases h)) rfl rfl (by rw [List.length_append]; exact hle1) (fun hle2 v2 => ?_) (fun hgt => ?_)
  rotate_left
  · skip
    repeat' ((apply aL))
    exact aN (cH H R (fun w hs => hs.weaken bU cZ) (hp (by ((simp only [List.length_append] at hgt ⊢; omega)))))
  refine aB ?_
  repeat' (first | (apply aF) | (apply aA) | (apply aG) | (apply aD) | (apply aP; exact rfl; ((refine aQ rfl cJ rfl ?_)); refine aB ?_) | (refine aE rfl rfl ?_; ((first | refine aH ?_ | refine aC rfl ?_)); refine aB ?_))
  refine fB rfl rfl (pR bw Al2 cl2 l2 hl2) (bL aV (fun _ h => (by cases h))) rfl rfl (by rw [List.length_append]; exact hle2) (fun hle3 v3 => ?_) (fun hgt => ?_)
  rotate_left
  · skip
    repeat' ((apply aL))
    exact aN (cH H R (fun w hs => hs.weaken bU cZ) (hp (by ((simp only [List.length_append] at hgt ⊢; omega)))))
  refine aB ?_
  repeat' (first | (apply aF) | (apply aA) | (apply aG) | (apply aD) | (apply aP; exact rfl; ((refine aQ rfl cJ rfl ?_)); refine aB ?_) | (refine aE rfl rfl ?_; ((first | refine aH ?_ | refine aC rfl ?_)); refine aB ?_))
  refine fB rfl rfl (oU bw b2) (fun _ h => (by cases h)) rfl rfl (by rw [List.length_append]; exact hle3) (fun hle4 v4 => ?_) (fun hgt => ?_)
  rotate_left
  · skip
    repeat' ((apply aL))
    exact aN (cH H R (fun w hs => hs.weaken bU cZ) (hp (by ((simp only [List.length_append] at hgt ⊢; omega)))))
  refine aB ?_
  repeat' (first | (apply aA) | (apply aG) | (apply aD) | (apply aP; exact rfl; ((refine aQ rfl cJ rfl ?_)); refine aB ?_) | (refine aE rfl rfl ?_; ((first | refine aH ?_ | refine aC rfl ?_)); refine aB ?_))
  refine fB rfl rfl (fJ bw n3 hn3) (fun _ h => (by cases h)) rfl rfl (by rw [List.length_append]; exact hle4) (fun hle5 v5 => ?_) (fun hgt => ?_)
  rotate_left
  · skip
    repeat' (fail)
    exact aN (cH H R (fun w hs => hs.weaken bU cZ) (hp (by ((simp only [List.length_append] at hgt ⊢; omega)))))
  refine aB ?_
  repeat' ((apply aG))
  refine bC (.inr rfl) (fV rfl) (eI _ R (fun w hs => ?_) (hk (by ((simp only [List.length_append] at hle5 ⊢; omega))) v5))
  try simp only [List.append_assoc] at hs ⊢
  exact hs.weaken bU cZ
theorem yA {w0 : World} (bw : Nat) (x : oI) (y : Unp.Y oI) (hok : Unp.ok x y) : Wr Tryz.prog w0 (Unp.fs x y) 72 [.pointer (some ⟨bw, 0, none⟩), .agg (Unp.cs x y).toArray] bw (Cod.enc x) := by
  obtain ⟨n1, n2, l1, b1, l2, b2, n3⟩ := x
  obtain ⟨u1, u2, ⟨A1, c1⟩, u3, ⟨A2, c2⟩, u4, u5⟩ := y
  obtain ⟨h1, h2, h3, _, h4, _, h5⟩ := hok
  exact lZ (xY bw n1 h1 n2 h2 A1 c1 l1 (Nat.le_trans h3.1 h3.2) b1 A2 c2 l2 (Nat.le_trans h4.1 h4.2) b2 n3 h5) (by simp only [Cod.enc, fY, List.flatMap_cons, List.flatMap_nil, List.append_nil, List.append_assoc]) rfl
theorem t8 {w0 : World} (bw : Nat) (n1 : Int) (hn1 : dD n1) (n2 : Int) (hn2 : dD n2) (n3 : Int) (hn3 : dD n3) (n4 : Int) (hn4 : dD n4) (Al1 : Option Addr) (cl1 : Nat) (l1 : List Tm) (hl1 : l1.length ≤ 9223372036854775807) (nm : ByteArray) (hnm : nm.size ≤ 9223372036854775807) (Al2 : Option Addr) (cl2 : Nat) (l2 : List Tm) (hl2 : l2.length ≤ 9223372036854775807) : Wr Tryz.prog w0 [Sl (.slice Al1 l1.length cl1) l1, Sl (.slice Al2 l2.length cl2) l2] 74 [.pointer (some ⟨bw, 0, none⟩), .agg #[.int .i64 n1, .int .i64 n2, .int .i64 n3, .int .i64 n4, .slice Al1 l1.length cl1, .string nm, .slice Al2 l2.length cl2]] bw ([n1, n2, n3, n4].flatMap cL ++ ((cL l1.length ++ l1.flatMap Tm.enc) ++ (gY nm ++ ((cL l2.length ++ l2.flatMap Tm.enc))))) := by
  intro H R K KP bs v hsub hb hk hp
  try simp only [List.length_append] at hp
  refine cP Tryz.func74 rfl Tryz.ntmps74 eZ ?_
  apply aF; apply aA
  repeat' ((refine bG rfl rfl ?_; ((refine eB cW (fun b => ?_))); refine aB ?_))
  apply aG; apply aD
  refine eS 0 rfl ?_
  refine iI rZ ?_
  have hS0 : Sl (.slice Al1 l1.length cl1) l1 ∈ R := hsub _ (by simp)
  have hS1 : Sl (.slice Al2 l2.length cl2) l2 ∈ R := hsub _ (by simp)
  clear hsub
  repeat' (first | (apply aF) | (apply aA) | (apply aP; exact rfl; ((refine aQ rfl cJ rfl ?_)); refine aB ?_) | (refine aE rfl rfl ?_; ((first | refine aH ?_ | refine aC rfl ?_)); refine aB ?_) | (refine bG rfl rfl ?_; ((refine bH (by decide) fD rfl (fun b => ?_))); refine aB ?_))
  refine mI [n1, n2, n3, n4] rfl (by intro x hx; simp only [List.mem_cons, List.not_mem_nil, or_false] at hx; rcases hx with rfl | rfl | rfl | rfl <;> assumption) (by simp) ?_
  repeat' (fail)
  refine fB rfl rfl (iT bw (some ⟨b, 0, none⟩) 4 [n1, n2, n3, n4] (by simp)) (bL List.mem_cons_self (fun _ h => (by cases h))) rfl rfl hb (fun hle0 v0 => ?_) (fun hgt => ?_)
  rotate_left
  · skip
    repeat' ((apply aL))
    exact aN (cH H R (fun w hs => hs.weaken bU cZ) (hp (by (omega))))
  refine aB ?_
  repeat' (first | (apply aF) | (apply aA) | (apply aG) | (apply aD) | (apply aP; exact rfl; ((refine aQ rfl cJ rfl ?_)); refine aB ?_) | (refine aE rfl rfl ?_; ((first | refine aH ?_ | refine aC rfl ?_ | refine cM gP gP ?_)); refine aB ?_))
  refine fB rfl rfl (kU rfl UnpL.len UnpL.one bw Al1 cl1 l1 124 [.pointer (some ⟨bw, 0, none⟩)] [] Tm.enc [] hl1 (fun x hx y hy => by rw [List.append_nil]; exact qA bw x y hy)) (bL aV (fun _ h => (by cases h))) rfl rfl (by rw [List.length_append]; exact hle0) (fun hle1 v1 => ?_) (fun hgt => ?_)
  rotate_left
  · skip
    repeat' ((apply aL))
    exact aN (cH H R (fun w hs => hs.weaken bU cZ) (hp (by ((simp only [List.length_append] at hgt ⊢; omega)))))
  refine aB ?_
  repeat' (first | (refine aP rfl ?_; refine aQ (o := 0) (q := 5) rfl aV rfl ?_; refine aB ?_) | (apply aF) | (apply aA) | (apply aG) | (apply aD) | (refine aE rfl rfl ?_; ((first | refine aH ?_ | refine aC rfl ?_)); refine aB ?_))
  refine fB rfl rfl (wQ bw nm hnm) (fun _ h => (by cases h)) rfl rfl (by rw [List.length_append]; exact hle1) (fun hle2 v2 => ?_) (fun hgt => ?_)
  rotate_left
  · skip
    repeat' ((apply aL))
    exact aN (cH H R (fun w hs => hs.weaken bU cZ) (hp (by ((simp only [List.length_append] at hgt ⊢; omega)))))
  refine aB ?_
  repeat' (first | (refine aP rfl ?_; refine aQ (o := 0) (q := 6) rfl aV rfl ?_; refine aB ?_) | (apply aA) | (apply aG) | (apply aD) | (refine aE rfl rfl ?_; ((first | refine aH ?_ | refine aC rfl ?_ | refine cM gP gP ?_)); refine aB ?_))
  refine fB rfl rfl (kU rfl UnpL.len UnpL.one bw Al2 cl2 l2 124 [.pointer (some ⟨bw, 0, none⟩)] [] Tm.enc [] hl2 (fun x hx y hy => by rw [List.append_nil]; exact qA bw x y hy)) (bL aV (fun _ h => (by cases h))) rfl rfl (by rw [List.length_append]; exact hle2) (fun hle3 v3 => ?_) (fun hgt => ?_)
  rotate_left
  · skip
    repeat' (fail)
    exact aN (cH H R (fun w hs => hs.weaken bU cZ) (hp (by ((simp only [List.length_append] at hgt ⊢; omega)))))
  refine aB ?_
  repeat' ((apply aG))
  refine bC (.inr rfl) (fV rfl) (eI _ R (fun w hs => ?_) (hk (by ((simp only [List.length_append] at hle3 ⊢; omega))) v3))
  try simp only [List.append_assoc] at hs ⊢
  exact hs.weaken bU cZ
theorem scope_w {w0 : World} (bw : Nat) (x : nZ) (y : Unp.Y nZ) (hok : Unp.ok x y) : Wr Tryz.prog w0 (Unp.fs x y) 74 [.pointer (some ⟨bw, 0, none⟩), .agg (Unp.cs x y).toArray] bw (Cod.enc x) := by
  obtain ⟨n1, n2, n3, n4, l1, nm, l2⟩ := x
  obtain ⟨u1, u2, u3, u4, ⟨A1, c1⟩, u5, ⟨A2, c2⟩⟩ := y
  obtain ⟨h1, h2, h3, h4, h5, h6, h7⟩ := hok
  exact lZ (t8 bw n1 h1 n2 h2 n3 h3 n4 h4 A1 c1 l1 (Nat.le_trans h5.1 h5.2) nm h6 A2 c2 l2 (Nat.le_trans h7.1 h7.2)) (by simp only [Cod.enc, fY, List.flatMap_cons, List.flatMap_nil, List.append_nil, List.append_assoc]) rfl
theorem val_x {w0 : World} (bw : Nat) (n1 : Int) (hn1 : dD n1) (tn : ByteArray) (htn : tn.size ≤ 9223372036854775807) (Atx : Option Addr) (ctx : Nat) (tx : List Tp) (htx : tx.length ≤ 9223372036854775807) (bo : Bool) (kk : Int) (hkk : dD kk) (ki : Int) (hki : dD ki) (kn : ByteArray) (hkn : kn.size ≤ 9223372036854775807) (Akx : Option Addr) (ckx : Nat) (kx : List Tm) (hkx : kx.length ≤ 9223372036854775807) : Wr Tryz.prog w0 [Sl (.slice Atx tx.length ctx) tx, Sl (.slice Akx kx.length ckx) kx] 76 [.pointer (some ⟨bw, 0, none⟩), .agg #[.int .i64 n1, .string tn, .slice Atx tx.length ctx, .bool bo, .int .i64 kk, .int .i64 ki, .string kn, .slice Akx kx.length ckx]] bw (cL n1 ++ (Tp.enc (.mk tn tx) ++ (gN bo ++ (Tm.enc (.mk kk ki kn kx))))) := by
  intro H R K KP bs v hsub hb hk hp
  try simp only [List.length_append] at hp
  refine cP Tryz.func76 rfl Tryz.ntmps76 eZ ?_
  apply aF; apply aA
  repeat' ((refine bG rfl rfl ?_; ((refine eB cW (fun b => ?_))); refine aB ?_))
  apply aG; apply aD
  refine eS 0 rfl ?_
  refine iI rZ ?_
  have hS0 : Sl (.slice Atx tx.length ctx) tx ∈ R := hsub _ (by simp)
  have hS1 : Sl (.slice Akx kx.length ckx) kx ∈ R := hsub _ (by simp)
  clear hsub
  repeat' (first | (apply aF) | (apply aA) | (apply aP; exact rfl; ((refine aQ rfl cJ rfl ?_)); refine aB ?_) | (refine aE rfl rfl ?_; ((first | refine aH ?_ | refine aC rfl ?_)); refine aB ?_))
  refine fB rfl rfl (fJ bw n1 hn1) (fun _ h => (by cases h)) rfl rfl hb (fun hle0 v0 => ?_) (fun hgt => ?_)
  rotate_left
  · skip
    repeat' ((apply aL))
    exact aN (cH H R (fun w hs => hs.weaken bU cZ) (hp (by (omega))))
  refine aB ?_
  repeat' (first | (apply aF) | (apply aA) | (apply aG) | (apply aD) | (apply aP; exact rfl; ((refine aQ rfl cJ rfl ?_)); refine aB ?_) | (refine aE rfl rfl ?_; ((first | refine aH ?_ | refine aC rfl ?_)); refine aB ?_))
  refine fB rfl rfl (typ_w bw (.mk tn tx) (Atx, ctx) ⟨htn, htx⟩) (bL aV (fun _ h => (by cases h))) rfl rfl (by rw [List.length_append]; exact hle0) (fun hle1 v1 => ?_) (fun hgt => ?_)
  rotate_left
  · skip
    repeat' ((apply aL))
    exact aN (cH H R (fun w hs => hs.weaken bU cZ) (hp (by ((simp only [List.length_append] at hgt ⊢; omega)))))
  refine aB ?_
  repeat' (first | (apply aF) | (apply aA) | (apply aG) | (apply aD) | (apply aP; exact rfl; ((refine aQ rfl cJ rfl ?_)); refine aB ?_) | (refine aE rfl rfl ?_; ((first | refine aH ?_ | refine aC rfl ?_)); refine aB ?_))
  refine fB rfl rfl (oU bw bo) (fun _ h => (by cases h)) rfl rfl (by rw [List.length_append]; exact hle1) (fun hle2 v2 => ?_) (fun hgt => ?_)
  rotate_left
  · skip
    repeat' ((apply aL))
    exact aN (cH H R (fun w hs => hs.weaken bU cZ) (hp (by ((simp only [List.length_append] at hgt ⊢; omega)))))
  refine aB ?_
  repeat' (first | (apply aA) | (apply aG) | (apply aD) | (apply aP; exact rfl; ((refine aQ rfl cJ rfl ?_)); refine aB ?_) | (refine aE rfl rfl ?_; ((first | refine aH ?_ | refine aC rfl ?_)); refine aB ?_))
  refine fB rfl rfl (qA bw (.mk kk ki kn kx) (Akx, ckx) ⟨hkk, hki, hkn, hkx⟩) (bL aV (fun _ h => (by cases h))) rfl rfl (by rw [List.length_append]; exact hle2) (fun hle3 v3 => ?_) (fun hgt => ?_)
  rotate_left
  · skip
    repeat' (fail)
    exact aN (cH H R (fun w hs => hs.weaken bU cZ) (hp (by ((simp only [List.length_append] at hgt ⊢; omega)))))
  refine aB ?_
  repeat' ((apply aG))
  refine bC (.inr rfl) (fV rfl) (eI _ R (fun w hs => ?_) (hk (by ((simp only [List.length_append] at hle3 ⊢; omega))) v3))
  try simp only [List.append_assoc] at hs ⊢
  exact hs.weaken bU cZ
theorem val_w {w0 : World} (bw : Nat) (x : kZ) (y : Unp.Y kZ) (hok : Unp.ok x y) : Wr Tryz.prog w0 (Unp.fs x y) 76 [.pointer (some ⟨bw, 0, none⟩), .agg (Unp.cs x y).toArray] bw (Cod.enc x) := by
  obtain ⟨n1, ⟨tn, tx⟩, bo, ⟨k, i, kn, kx⟩⟩ := x
  obtain ⟨u1, ⟨A1, c1⟩, u3, ⟨A2, c2⟩⟩ := y
  obtain ⟨h1, ⟨h2, h3⟩, _, h4, h5, h6, h7⟩ := hok
  exact lZ (val_x bw n1 h1 tn h2 A1 c1 tx h3 bo k h4 i h5 kn h6 A2 c2 kx h7) (by simp only [Cod.enc, fY, List.flatMap_cons, List.flatMap_nil, List.append_nil, List.append_assoc]) rfl
end Go.Proofs.YtggdljhmbckpmaaGreat
namespace Go.Proofs.YtggdljhmbckpmaaGreat
open Go Go.RowKit
set_option maxRecDepth 100000
set_option maxHeartbeats 1600000

theorem trail_x {w0 : World} (bw : Nat) (b2 : Nat) (n1 : Int) (hn1 : dD n1) (lv : Int) (hlv : dD lv) (tn : ByteArray) (htn : tn.size ≤ 9223372036854775807) (Atx : Option Addr) (ctx : Nat) (tx : List Tp) (htx : tx.length ≤ 9223372036854775807) (bo : Bool) (kk : Int) (hkk : dD kk) (ki : Int) (hki : dD ki) (kn : ByteArray) (hkn : kn.size ≤ 9223372036854775807) (Akx : Option Addr) (ckx : Nat) (kx : List Tm) (hkx : kx.length ≤ 9223372036854775807) : Wr Tryz.prog w0 [Sl (.slice Atx tx.length ctx) tx, Sl (.slice Akx kx.length ckx) kx, At b2 0 [.pointer (some ⟨bw, 0, none⟩)]] 78 [.agg #[.int .i64 n1, .int .i64 lv, .string tn, .slice Atx tx.length ctx, .bool bo, .int .i64 kk, .int .i64 ki, .string kn, .slice Akx kx.length ckx], .pointer (some ⟨b2, 0, none⟩)] bw (cL n1 ++ ((Cod.enc (α := kZ) (lv, .mk tn tx, bo, .mk kk ki kn kx)))) := by
  intro H R K KP bs v hsub hb hk hp
  try simp only [List.length_append] at hp
  refine cP Tryz.func78 rfl Tryz.ntmps78 eZ ?_
  apply aF; apply aA
  repeat' ((refine bG rfl rfl ?_; ((refine eB cW (fun b => ?_))); refine aB ?_))
  apply aG; apply aD
  refine eS 0 rfl ?_
  refine iI rZ ?_
  have hS0 : Sl (.slice Atx tx.length ctx) tx ∈ R := hsub _ (by simp)
  have hS1 : Sl (.slice Akx kx.length ckx) kx ∈ R := hsub _ (by simp)
  have hB : At b2 0 [.pointer (some ⟨bw, 0, none⟩)] ∈ R := hsub _ (by simp)
  clear hsub
  repeat' (first | (apply aF) | (apply aA) | (apply aP; exact rfl; ((first | refine aQ rfl cJ rfl ?_ | refine aZ rfl cJ rfl ?_)); refine aB ?_) | (refine aE rfl rfl ?_; ((refine aC rfl ?_)); refine aB ?_))
  refine fB rfl rfl (fJ bw n1 hn1) (fun _ h => (by cases h)) rfl rfl hb (fun hle0 v0 => ?_) (fun hgt => ?_)
  rotate_left
  · skip
    repeat' ((apply aL))
    exact aN (cH H R (fun w hs => hs.weaken bU cZ) (hp (by (omega))))
  refine aB ?_
  repeat' (first | (apply aA) | (apply aG) | (apply aD) | (apply aP; exact rfl; ((first | refine aQ rfl cJ rfl ?_ | refine aZ rfl cJ rfl ?_)); refine aB ?_) | (refine aE rfl rfl ?_; ((refine aC rfl ?_)); refine aB ?_))
  refine fB rfl rfl (val_w bw (lv, .mk tn tx, bo, .mk kk ki kn kx) ((), (Atx, ctx), (), (Akx, ckx)) ⟨hlv, ⟨htn, htx⟩, trivial, hkk, hki, hkn, hkx⟩) (bL aV (bL aV (fun _ h => (by cases h)))) rfl rfl (by rw [List.length_append]; exact hle0) (fun hle1 v1 => ?_) (fun hgt => ?_)
  rotate_left
  · skip
    repeat' (fail)
    exact aN (cH H R (fun w hs => hs.weaken bU cZ) (hp (by ((simp only [List.length_append] at hgt ⊢; omega)))))
  refine aB ?_
  repeat' ((apply aG))
  refine bC (.inr rfl) (fV rfl) (eI _ R (fun w hs => ?_) (hk (by ((simp only [List.length_append] at hle1 ⊢; omega))) v1))
  try simp only [List.append_assoc] at hs ⊢
  exact hs.weaken bU cZ
theorem aC2 {w0 : World} (bw b2 : Nat) (x : lU) (y : Unp.Y lU) (hok : Unp.ok x y) : Wr Tryz.prog w0 (Unp.fs x y ++ [At b2 0 [.pointer (some ⟨bw, 0, none⟩)]]) 78 [.agg (Unp.cs x y).toArray, .pointer (some ⟨b2, 0, none⟩)] bw (Cod.enc x) := by
  obtain ⟨n1, lv, ⟨tn, tx⟩, bo, ⟨k, i, kn, kx⟩⟩ := x
  obtain ⟨u0, u1, ⟨A1, c1⟩, u3, ⟨A2, c2⟩⟩ := y
  obtain ⟨h0, h1, ⟨h2, h3⟩, _, h4, h5, h6, h7⟩ := hok
  exact lZ (trail_x bw b2 n1 h0 lv h1 tn h2 A1 c1 tx h3 bo k h4 i h5 kn h6 A2 c2 kx h7) (by simp only [Cod.enc, fY, List.flatMap_cons, List.flatMap_nil, List.append_nil, List.append_assoc]) rfl
theorem try_x {w0 : World} (bw : Nat) (b2 : Nat) (n1 : Int) (hn1 : dD n1) (n2 : Int) (hn2 : dD n2) (n3 : Int) (hn3 : dD n3) : Wr Tryz.prog w0 [At b2 0 [.pointer (some ⟨bw, 0, none⟩)]] 128 [.agg #[.int .i64 n1, .int .i64 n2, .int .i64 n3], .pointer (some ⟨b2, 0, none⟩)] bw ([n1, n2, n3].flatMap cL) := by
  intro H R K KP bs v hsub hb hk hp
  try simp only [List.length_append] at hp
  refine cP Tryz.func128 rfl Tryz.ntmps128 eZ ?_
  apply aF; apply aA
  repeat' ((refine bG rfl rfl ?_; ((refine eB cW (fun b => ?_))); refine aB ?_))
  apply aG; apply aD
  refine eS 0 rfl ?_
  refine iI rZ ?_
  have hB : At b2 0 [.pointer (some ⟨bw, 0, none⟩)] ∈ R := hsub _ (by simp)
  clear hsub
  repeat' (first | (apply aA) | (apply aP; exact rfl; ((first | refine aQ rfl cJ rfl ?_ | refine aZ rfl cJ rfl ?_)); refine aB ?_) | (refine aE rfl rfl ?_; ((refine aC rfl ?_)); refine aB ?_) | (refine bG rfl rfl ?_; ((refine bH (by decide) fD rfl (fun b => ?_))); refine aB ?_))
  refine mI [n1, n2, n3] rfl (by intro x hx; simp only [List.mem_cons, List.not_mem_nil, or_false] at hx; rcases hx with rfl | rfl | rfl <;> assumption) (by simp) ?_
  repeat' (fail)
  refine fB rfl rfl (iT bw (some ⟨b, 0, none⟩) 3 [n1, n2, n3] (by simp)) (bL List.mem_cons_self (fun _ h => (by cases h))) rfl rfl hb (fun hle0 v0 => ?_) (fun hgt => ?_)
  rotate_left
  · skip
    repeat' (fail)
    exact aN (cH H R (fun w hs => hs.weaken bU cZ) (hp (by (omega))))
  refine aB ?_
  repeat' ((apply aG))
  refine bC (.inr rfl) (fV rfl) (eI _ R (fun w hs => ?_) (hk (by (omega)) v0))
  try simp only [List.append_assoc] at hs ⊢
  exact hs.weaken bU cZ
theorem try_w {w0 : World} (bw b2 : Nat) (x : qS) (y : Unp.Y qS) (hok : Unp.ok x y) : Wr Tryz.prog w0 (Unp.fs x y ++ [At b2 0 [.pointer (some ⟨bw, 0, none⟩)]]) 128 [.agg (Unp.cs x y).toArray, .pointer (some ⟨b2, 0, none⟩)] bw (Cod.enc x) := by
  obtain ⟨n1, n2, n3⟩ := x
  obtain ⟨h1, h2, h3⟩ := hok
  exact lZ (try_x bw b2 n1 h1 n2 h2 n3 h3) (by simp only [Cod.enc, fY, List.flatMap_cons, List.flatMap_nil, List.append_nil, List.append_assoc]) rfl
theorem zP {w0 : World} (bw : Nat) (n1 : Int) (hn1 : dD n1) (Al1 : Option Addr) (cl1 : Nat) (l1 : List qS) (hl1 : l1.length ≤ 9223372036854775807) (Al2 : Option Addr) (cl2 : Nat) (l2 : List Tm) (hl2 : l2.length ≤ 9223372036854775807) (n2 : Int) (hn2 : dD n2) (n3 : Int) (hn3 : dD n3) (n4 : Int) (hn4 : dD n4) (n5 : Int) (hn5 : dD n5) (n6 : Int) (hn6 : dD n6) (n7 : Int) (hn7 : dD n7) (n8 : Int) (hn8 : dD n8) (b1 : Bool) (Al3 : Option Addr) (cl3 : Nat) (l3 : List Int) (hl3 : l3.length ≤ 9223372036854775807) (Al4 : Option Addr) (cl4 : Nat) (l4 : List Int) (hl4 : l4.length ≤ 9223372036854775807) (m1 : Int) (hm1 : dD m1) (m2 : Int) (hm2 : dD m2) (m3 : Int) (hm3 : dD m3) (m4 : Int) (hm4 : dD m4) (m5 : Int) (hm5 : dD m5) : Wr Tryz.prog w0 [Sl (.slice Al1 l1.length cl1) l1, Sl (.slice Al2 l2.length cl2) l2, Sl (.slice Al3 l3.length cl3) l3, Sl (.slice Al4 l4.length cl4) l4] 81 [.pointer (some ⟨bw, 0, none⟩), .agg #[.int .i64 n1, .slice Al1 l1.length cl1, .slice Al2 l2.length cl2, .int .i64 n2, .int .i64 n3, .int .i64 n4, .int .i64 n5, .int .i64 n6, .int .i64 n7, .int .i64 n8, .bool b1, .slice Al3 l3.length cl3, .slice Al4 l4.length cl4, .int .i64 m1, .int .i64 m2, .int .i64 m3, .int .i64 m4, .int .i64 m5]] bw (cL n1 ++ ((cL l1.length ++ l1.flatMap Cod.enc) ++ ((cL l2.length ++ l2.flatMap Tm.enc) ++ ([n2, n3, n4, n5, n6, n7, n8].flatMap cL ++ (gN b1 ++ (fY l3 ++ (fY l4 ++ ([m1, m2, m3, m4, m5].flatMap cL)))))))) := by
  intro H R K KP bs v hsub hb hk hp
  try simp only [List.length_append] at hp
  refine cP Tryz.func81 rfl Tryz.ntmps81 eZ ?_
  apply aF; apply aA
  repeat' ((refine bG rfl rfl ?_; ((refine eB cW (fun b => ?_))); refine aB ?_))
  apply aG; apply aD
  rename_i b2
  refine eS 0 rfl ?_
  refine eS 0 rfl ?_
  refine iI rZ ?_
  have hS0 : Sl (.slice Al1 l1.length cl1) l1 ∈ R := hsub _ (by simp)
  have hS1 : Sl (.slice Al2 l2.length cl2) l2 ∈ R := hsub _ (by simp)
  have hS2 : Sl (.slice Al3 l3.length cl3) l3 ∈ R := hsub _ (by simp)
  have hS3 : Sl (.slice Al4 l4.length cl4) l4 ∈ R := hsub _ (by simp)
  clear hsub
  repeat' (first | (apply aF) | (apply aA) | (apply aP; exact rfl; ((first | refine aQ rfl cJ rfl ?_ | refine aZ rfl cJ rfl ?_)); refine aB ?_) | (refine aE rfl rfl ?_; ((refine aC rfl ?_)); refine aB ?_))
  refine fB rfl rfl (fJ bw n1 hn1) (fun _ h => (by cases h)) rfl rfl hb (fun hle0 v0 => ?_) (fun hgt => ?_)
  rotate_left
  · skip
    repeat' ((apply aL))
    exact aN (cH H R (fun w hs => hs.weaken bU cZ) (hp (by (omega))))
  refine aB ?_
  repeat' (first | (apply aF) | (apply aA) | (apply aG) | (apply aD) | (apply aP; exact rfl; ((first | refine aQ rfl cJ rfl ?_ | refine aZ rfl cJ rfl ?_)); refine aB ?_) | (refine aE rfl rfl ?_; ((first | refine aC rfl ?_ | refine cM gP gP ?_)); refine aB ?_))
  refine fB rfl rfl (g5 rfl UnpL.len UnpL.one bw Al1 cl1 l1 128 [] [.pointer (some ⟨b2, 0, none⟩)] Cod.enc [At b2 0 [.pointer (some ⟨bw, 0, none⟩)]] hl1 (fun x hx y hy => try_w bw b2 x y hy)) (bL aV (bL aV (fun _ h => (by cases h)))) rfl rfl (by rw [List.length_append]; exact hle0) (fun hle1 v1 => ?_) (fun hgt => ?_)
  rotate_left
  · skip
    repeat' ((apply aL))
    exact aN (cH H R (fun w hs => hs.weaken bU cZ) (hp (by ((simp only [List.length_append] at hgt ⊢; omega)))))
  refine aB ?_
  repeat' (first | (apply aF) | (apply aA) | (apply aG) | (apply aD) | (apply aP; exact rfl; ((first | refine aQ rfl cJ rfl ?_ | refine aZ rfl cJ rfl ?_)); refine aB ?_) | (refine aE rfl rfl ?_; ((first | refine aC rfl ?_ | refine cM gP gP ?_)); refine aB ?_))
  refine fB rfl rfl (kU rfl UnpL.len UnpL.one bw Al2 cl2 l2 124 [.pointer (some ⟨bw, 0, none⟩)] [] Tm.enc [] hl2 (fun x hx y hy => by rw [List.append_nil]; exact qA bw x y hy)) (bL aV (fun _ h => (by cases h))) rfl rfl (by rw [List.length_append]; exact hle1) (fun hle2 v2 => ?_) (fun hgt => ?_)
  rotate_left
  · skip
    repeat' ((apply aL))
    exact aN (cH H R (fun w hs => hs.weaken bU cZ) (hp (by ((simp only [List.length_append] at hgt ⊢; omega)))))
  refine aB ?_
  repeat' (first | (apply aF) | (apply aA) | (apply aG) | (apply aD) | (apply aP; exact rfl; ((first | refine aQ rfl cJ rfl ?_ | refine aZ rfl cJ rfl ?_)); refine aB ?_) | (refine aE rfl rfl ?_; ((refine aC rfl ?_)); refine aB ?_) | (refine bG rfl rfl ?_; ((refine bH (by decide) fD rfl (fun b => ?_))); refine aB ?_))
  refine mI [n2, n3, n4, n5, n6, n7, n8] rfl (by intro x hx; simp only [List.mem_cons, List.not_mem_nil, or_false] at hx; rcases hx with rfl | rfl | rfl | rfl | rfl | rfl | rfl <;> assumption) (by simp) ?_
  repeat' (fail)
  refine fB rfl rfl (iT bw (some ⟨b, 0, none⟩) 7 [n2, n3, n4, n5, n6, n7, n8] (by simp)) (bL List.mem_cons_self (fun _ h => (by cases h))) rfl rfl (by rw [List.length_append]; exact hle2) (fun hle3 v3 => ?_) (fun hgt => ?_)
  rotate_left
  · skip
    repeat' ((apply aL))
    exact aN (cH H R (fun w hs => hs.weaken bU cZ) (hp (by ((simp only [List.length_append] at hgt ⊢; omega)))))
  refine aB ?_
  repeat' (first | (apply aF) | (apply aA) | (apply aG) | (apply aD) | (apply aP; exact rfl; ((first | refine aQ rfl cJ rfl ?_ | refine aZ rfl cJ rfl ?_)); refine aB ?_) | (refine aE rfl rfl ?_; ((refine aC rfl ?_)); refine aB ?_))
  refine fB rfl rfl (oU bw b1) (fun _ h => (by cases h)) rfl rfl (by rw [List.length_append]; exact hle3) (fun hle4 v4 => ?_) (fun hgt => ?_)
  rotate_left
  · skip
    repeat' ((apply aL))
    exact aN (cH H R (fun w hs => hs.weaken bU cZ) (hp (by ((simp only [List.length_append] at hgt ⊢; omega)))))
  refine aB ?_
  repeat' (first | (apply aF) | (apply aA) | (apply aG) | (apply aD) | (apply aP; exact rfl; ((first | refine aQ rfl cJ rfl ?_ | refine aZ rfl cJ rfl ?_)); refine aB ?_) | (refine aE rfl rfl ?_; ((refine aC rfl ?_)); refine aB ?_))
  refine fB rfl rfl (pR bw Al3 cl3 l3 hl3) (bL aV (fun _ h => (by cases h))) rfl rfl (by rw [List.length_append]; exact hle4) (fun hle5 v5 => ?_) (fun hgt => ?_)
  rotate_left
  · skip
    repeat' ((apply aL))
    exact aN (cH H R (fun w hs => hs.weaken bU cZ) (hp (by ((simp only [List.length_append] at hgt ⊢; omega)))))
  refine aB ?_
  repeat' (first | (apply aF) | (apply aA) | (apply aG) | (apply aD) | (apply aP; exact rfl; ((first | refine aQ rfl cJ rfl ?_ | refine aZ rfl cJ rfl ?_)); refine aB ?_) | (refine aE rfl rfl ?_; ((refine aC rfl ?_)); refine aB ?_))
  refine fB rfl rfl (pR bw Al4 cl4 l4 hl4) (bL aV (fun _ h => (by cases h))) rfl rfl (by rw [List.length_append]; exact hle5) (fun hle6 v6 => ?_) (fun hgt => ?_)
  rotate_left
  · skip
    repeat' ((apply aL))
    exact aN (cH H R (fun w hs => hs.weaken bU cZ) (hp (by ((simp only [List.length_append] at hgt ⊢; omega)))))
  refine aB ?_
  repeat' (first | (apply aA) | (apply aG) | (apply aD) | (apply aP; exact rfl; ((first | refine aQ rfl cJ rfl ?_ | refine aZ rfl cJ rfl ?_)); refine aB ?_) | (refine aE rfl rfl ?_; ((refine aC rfl ?_)); refine aB ?_) | (refine bG rfl rfl ?_; ((refine bH (by decide) fD rfl (fun b => ?_))); refine aB ?_))
  refine mI [m1, m2, m3, m4, m5] rfl (by intro x hx; simp only [List.mem_cons, List.not_mem_nil, or_false] at hx; rcases hx with rfl | rfl | rfl | rfl | rfl <;> assumption) (by simp) ?_
  repeat' (fail)
  refine fB rfl rfl (iT bw (some ⟨b, 0, none⟩) 5 [m1, m2, m3, m4, m5] (by simp)) (bL List.mem_cons_self (fun _ h => (by cases h))) rfl rfl (by rw [List.length_append]; exact hle6) (fun hle7 v7 => ?_) (fun hgt => ?_)
  rotate_left
  · skip
    repeat' (fail)
    exact aN (cH H R (fun w hs => hs.weaken bU cZ) (hp (by ((simp only [List.length_append] at hgt ⊢; omega)))))
  refine aB ?_
  repeat' ((apply aG))
  refine bC (.inr rfl) (fV rfl) (eI _ R (fun w hs => ?_) (hk (by ((simp only [List.length_append] at hle7 ⊢; omega))) v7))
  try simp only [List.append_assoc] at hs ⊢
  exact hs.weaken bU cZ
theorem zY {w0 : World} (bw : Nat) (x : nT) (y : Unp.Y nT) (hok : Unp.ok x y) : Wr Tryz.prog w0 (Unp.fs x y) 81 [.pointer (some ⟨bw, 0, none⟩), .agg (Unp.cs x y).toArray] bw (Cod.enc x) := by
  obtain ⟨n1, l1, l2, n2, n3, n4, n5, n6, n7, n8, b1, l3, l4, m1, m2, m3, m4, m5⟩ := x
  obtain ⟨u1, ⟨A1, c1⟩, ⟨A2, c2⟩, u2, u3, u4, u5, u6, u7, u8, u9, ⟨A3, c3⟩, ⟨A4, c4⟩, w1, w2, w3, w4, w5⟩ := y
  obtain ⟨h1, g1, g2, h2, h3, h4, h5, h6, h7, h8, _, g3, g4, k1, k2, k3, k4, k5⟩ := hok
  exact lZ (zP bw n1 h1 A1 c1 l1 (Nat.le_trans g1.1 g1.2) A2 c2 l2 (Nat.le_trans g2.1 g2.2) n2 h2 n3 h3 n4 h4 n5 h5 n6 h6 n7 h7 n8 h8 b1 A3 c3 l3 (Nat.le_trans g3.1 g3.2) A4 c4 l4 (Nat.le_trans g4.1 g4.2) m1 k1 m2 k2 m3 k3 m4 k4 m5 k5) (by simp only [Cod.enc, fY, List.flatMap_cons, List.flatMap_nil, List.append_nil, List.append_assoc]) rfl
end Go.Proofs.YtggdljhmbckpmaaGreat
namespace Go.Proofs.YtggdljhmbckpmaaGreat
open Go Go.RowKit
set_option maxRecDepth 100000
set_option maxHeartbeats 1600000

theorem g7 {w0 : World} (bw : Nat) (x : jT) (y : Unp.Y jT) (hok : Unp.ok x y) : Wr Tryz.prog w0 (Unp.fs x y) 30 [.pointer (some ⟨bw, 0, none⟩), .agg (Unp.cs x y).toArray] bw (Cod.enc x) := by
  obtain ⟨n1, n2, n3, n4, n5, n6, b1, l1, l2, lF, lB, lS, lV, lT, lC, n7⟩ := x
  obtain ⟨u1, u2, u3, u4, u5, u6, u7, ⟨A1, c1⟩, ⟨A2, c2⟩, ⟨AF, cF⟩, ⟨AB, cB⟩, ⟨AS, cS⟩, ⟨AV, cV⟩, ⟨AT, cT⟩, ⟨AC, cC⟩, u8⟩ := y
  obtain ⟨h1, h2, h3, h4, h5, h6, _, g1, g2, gF, gB, gS, gV, gT, gC, h7⟩ := hok
  exact lZ (wT bw (αF := oK) (αB := oI) (αS := nZ) (αV := kZ) (αT := lU) (αC := nT) n1 n2 n3 n4 n5 n6 n7 b1 (by intro x hx; simp only [List.mem_cons, List.not_mem_nil, or_false] at hx; rcases hx with rfl | rfl | rfl | rfl | rfl | rfl <;> assumption) h7 A1 c1 l1 (Nat.le_trans g1.1 g1.2) A2 c2 l2 (Nat.le_trans g2.1 g2.2)
    rfl UnpL.len UnpL.one AF cF lF (Nat.le_trans gF.1 gF.2) Cod.enc (fun x _ y hy => w6 bw x y hy)
    rfl UnpL.len UnpL.one AB cB lB (Nat.le_trans gB.1 gB.2) Cod.enc (fun x _ y hy => yA bw x y hy)
    rfl UnpL.len UnpL.one AS cS lS (Nat.le_trans gS.1 gS.2) Cod.enc (fun x _ y hy => scope_w bw x y hy)
    rfl UnpL.len UnpL.one AV cV lV (Nat.le_trans gV.1 gV.2) Cod.enc (fun x _ y hy => val_w bw x y hy)
    rfl UnpL.len UnpL.one AT cT lT (Nat.le_trans gT.1 gT.2) Cod.enc (fun b2 x _ y hy => aC2 bw b2 x y hy)
    rfl UnpL.len UnpL.one AC cC lC (Nat.le_trans gC.1 gC.2) Cod.enc (fun x _ y hy => zY bw x y hy)) (by simp only [Cod.enc, fY, List.flatMap_cons, List.flatMap_nil, List.append_nil, List.append_assoc]) rfl
/-- What Encode returns. -/
def encM (m : jT) : List UInt8 × Int := tL (Cod.enc m)
theorem xV {w0 : World} {H : List Hp} {R : List MP} {K : Value → List Hp → List MP → Prop} (m : jT) (y : Unp.Y jT) (hok : Unp.ok m y) (hsub : ∀ p ∈ Unp.fs m y, p ∈ R) (k : KB K (encM m) H R) : CallsK Tryz.prog w0 7 #[.agg (Unp.cs m y).toArray] H R K :=
  tX (Unp.cs m y) (Cod.enc m) (fun bw => g7 bw m y hok) (UnpL.len m y) hsub k
end Go.Proofs.YtggdljhmbckpmaaGreat
