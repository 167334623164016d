/- Structs written: walks, printed by gen_wr.py. Structs written: walks, printed by gen_wr.py. -/
import Derived.Test.YtggdljhmbckpmaaGreatE3bJ
import Derived.Test.YtggdljhmbckpmaaGreatE6J
import Derived.Test.YtggdljhmbckpmaaGreatD2
import Derived.Test.YtggdljhmbckpmaaGreatE3
import Derived.Test.YtggdljhmbckpmaaGreatF2J
set_option linter.unusedVariables false
set_option linter.unusedSimpArgs false
namespace Go.Proofs.YtggdljhmbckpmaaGreat
open Go Go.RowKit
set_option maxRecDepth 100000
set_option maxHeartbeats 1600000

theorem yO {w0 : World} (bw : Nat) (s : ByteArray) (hs : s.size ≤ 9223372036854775807) : Wr Tryz.prog w0 [] 125 [.pointer (some ⟨bw, 0, none⟩), .string s] bw (iU s) := by
  intro H R K KP bs v hsub hb hk hp
  have hIx : dO (s.size : Int) := by simp only [dO]; omega
  have hsl : s.data.toList.length = s.size := rfl
  rw [iU, List.length_append] at hk hp
  refine dE Tryz.func125 rfl Tryz.ntmps125 fI ?_
  repeat' (first | (apply aF) | (apply aA) | (refine aE rfl rfl ?_; ((first | refine aG ?_ | refine kI rfl ?_)); refine aB ?_))
  refine fV rfl rfl (gH bw s.size hIx) (fun _ h => (by cases h)) rfl rfl hb (fun hle v2 => ?_) (fun hgt => ?_)
  rotate_left
  · skip
    repeat' ((apply aM))
    exact aR (cN H R (fun w hs => hs) (hp aO))
  refine aB ?_
  repeat' (first | (apply aF) | (apply aA) | (apply aV) | (apply aH) | (apply aD) | (refine aE rfl rfl ?_; ((first | refine aG ?_ | refine kI rfl ?_)); refine aB ?_))
  refine cM [4, 11, 12, 13, 14, 15, 16, 17, 18, 19] (fun m j H2 R2 => ∃ (i : Nat) (bs' : List UInt8) (v' : Value), i + m = s.size ∧ j 11 = .int .i64 (i : Int) ∧ R2 = R ∧ H2 = .row v' 5 1 bs'.length (bC bs') :: .blk bw [v'] 85 :: H ∧ bs'.length ≤ 250000 ∧ bs' ++ s.data.toList.drop i = bs ++ (dA s.size ++ s.data.toList)) s.size eS ⟨0, bs ++ dA s.size, v2, by omega, rfl, rfl, rfl, by rw [List.length_append]; exact hle, by rw [List.append_assoc]; rfl⟩ ?_
  rintro m j' H2 R2 ⟨i, bs', v', him, h11, hR2, hH2, hb', hle2⟩
  subst hH2 hR2
  refine dD (by simp only [eF, List.foldl_cons, List.foldl_nil, List.set_cons_succ, List.set_cons_zero, h11]; rfl) ?_
  have hlen : bs'.length + (s.data.toList.drop i).length = bs.length + ((dA s.size).length + s.data.toList.length) := by
    have := congrArg List.length hle2
    simpa only [List.length_append] using this
  rw [List.length_drop] at hlen
  rcases Nat.lt_or_ge i s.size with hlt | hge
  · have hd : s.data.toList.drop i = s.data.toList[i] :: s.data.toList.drop (i + 1) := List.drop_eq_getElem_cons aO
    obtain ⟨ch, hch⟩ : ∃ ch, s.data.toList[i] = ch := ⟨_, rfl⟩
    have hsi : s[((i : Nat) : Int).toNat]? = some ch := by
      rw [Int.toNat_natCast, ← hch]
      have : s[i]? = some s[i] := getElem?_pos s i hlt
      rw [this]; rfl
    rw [hch] at hd
    rw [hd] at hle2
    have HL := Go.Lib.hid hle2
    clear hle2 hd
    repeat' (first | (refine aE rfl rfl ?_; refine gM (c := ch) rfl rfl aO hsi ?_; refine aB ?_) | (apply aF) | (apply aA) | (apply aV) | (apply bF) | (apply aK; exact rfl) | (apply aH) | (apply aD) | (apply aU; exact rfl; ((refine bQ rfl rfl (fun h => ?_) (fun h => ?_))) <;> (first | (exfalso; omega) | refine aB ?_)) | (refine aE rfl rfl ?_; ((first | refine aG ?_ | refine aY ?_)); refine aB ?_))
    refine fV rfl rfl (nT bw ch) (fun _ h => (by cases h)) rfl rfl hb' (fun hle v3 => ?_) (fun hgt => ?_)
    · refine aB ?_
      repeat' (first | (apply aA) | (apply aH) | (apply aD) | (apply bU) | (apply aU; exact rfl; ((refine bM rfl rfl aO aO ?_)); refine aB ?_) | (refine aE rfl rfl ?_; ((refine aG ?_)); refine aB ?_))
      refine cJ (m - 1) _ R2 aO eS ⟨i + 1, bs' ++ [ch], v3, by omega, rfl, rfl, rfl, by rw [List.length_append]; exact hle, ?_⟩ (fun w hs => hs)
      rw [← HL.out]; simp
    · skip
      repeat' (first | (apply aM) | (apply cI))
      refine aR (cN H R2 (fun w hs => hs) (hp (by simp only [List.length_singleton] at hgt; omega)))
  · rw [List.drop_of_length_le aO, List.append_nil] at hle2
    rw [hle2] at hb' ⊢
    repeat' (first | (apply aF) | (apply aA) | (apply cG) | (apply aJ; exact rfl) | (apply aH) | (apply aD) | (apply aW) | (apply aS) | (apply aU; exact rfl; ((refine bQ rfl rfl (fun h => ?_) (fun h => ?_))) <;> (first | (exfalso; omega) | refine aB ?_)))
    refine aZ (.inr rfl) (gQ rfl) (fG _ R2 (fun w hs => hs) (hk (by rw [List.length_append, List.length_append] at hb'; exact hb') v'))
theorem nF {P : Program} {w0 : World} {R0 R1 : List MP} {f : FuncId} {args : List Value} {bw : Nat} {out out' : List UInt8} (h : Wr P w0 R0 f args bw out) (e : out = out') (hR : R0 = R1) : Wr P w0 R1 f args bw out' := by
  subst e hR; exact h
theorem typ_wn {w0 : World} (bw : Nat) : ∀ n : Nat, ∀ (nm : ByteArray) (hnm : nm.size ≤ 9223372036854775807) (Al : Option Addr) (cl : Nat) (l : List Tp) (hl : l.length ≤ 9223372036854775807), SizeOf.sizeOf (Tp.mk nm l) < n → Wr Tryz.prog w0 [Sl (.slice Al l.length cl) l] 126 [.pointer (some ⟨bw, 0, none⟩), .agg #[.string nm, .slice Al l.length cl]] bw (iU nm ++ ((dA l.length ++ l.flatMap Tp.enc))) := by
  intro n
  induction n with
  | zero => exact fun nm hnm Al cl l hl h => absurd h (Nat.not_lt_zero _)
  | succ n ih =>
  intro nm hnm Al cl l hl hsz
  have ih' : ∀ x ∈ l, ∀ y : Unp.Y Tp, Unp.ok x y → Wr Tryz.prog w0 (Unp.fs x y ++ []) 126 ([.pointer (some ⟨bw, 0, none⟩)] ++ [.agg (Unp.cs x y).toArray] ++ []) bw (Tp.enc x) := by
    intro x hx y hy
    have hlt := List.sizeOf_lt_of_mem hx
    obtain ⟨nm', l'⟩ := x
    exact nF (ih nm' hy.1 y.1 y.2 l' hy.2 (by simp only [Tp.mk.sizeOf_spec] at hsz hlt ⊢; omega)) (Tp.enc_eq _ _).symm rfl
  intro H R K KP bs v hsub hb hk hp
  try simp only [List.length_append] at hp
  refine dE Tryz.func126 rfl Tryz.ntmps126 fI ?_
  apply aF; apply aA
  repeat' ((refine bJ rfl rfl ?_; ((refine dX cW (fun b => ?_))); refine aB ?_))
  apply aH; apply aD
  refine fO 0 rfl ?_
  refine jB tH ?_
  have hS0 : Sl (.slice Al l.length cl) l ∈ R := hsub _ dB
  clear hsub
  repeat' (first | (apply aF) | (apply aA) | (apply aP; exact rfl; ((refine aQ rfl cL rfl ?_)); refine aB ?_) | (refine aE rfl rfl ?_; ((first | refine aG ?_ | refine aC rfl ?_)); refine aB ?_))
  refine fV rfl rfl (yO bw nm hnm) (fun _ h => (by cases h)) rfl rfl hb (fun hle0 v0 => ?_) (fun hgt => ?_)
  rotate_left
  · skip
    repeat' ((apply aM))
    exact aR (cN H R dV (hp (by (omega))))
  refine aB ?_
  repeat' (first | (apply aA) | (apply aH) | (apply aD) | (apply aP; exact rfl; ((refine aQ rfl cL rfl ?_)); refine aB ?_) | (refine aE rfl rfl ?_; ((first | refine aG ?_ | refine aC rfl ?_ | refine cR iE iE ?_)); refine aB ?_))
  refine fV rfl rfl (put122_w rfl UnpL.len UnpL.one bw Al cl l 126 [.pointer (some ⟨bw, 0, none⟩)] [] Tp.enc [] hl ih') (bT aX (fun _ h => (by cases h))) rfl rfl (by rw [List.length_append]; exact hle0) (fun hle1 v1 => ?_) (fun hgt => ?_)
  rotate_left
  · skip
    repeat' (fail)
    exact aR (cN H R dV (hp (by ((simp only [List.length_append] at hgt ⊢; omega)))))
  refine aB ?_
  repeat' ((apply aH))
  refine aZ (.inr rfl) (gQ rfl) (fG _ R (fun w hs => ?_) (hk (by ((simp only [List.length_append] at hle1 ⊢; omega))) v1))
  try simp only [List.append_assoc] at hs ⊢
  exact hs.weaken eB hP
theorem typ_w {w0 : World} (bw : Nat) (x : Tp) (y : Unp.Y Tp) (hok : Unp.ok x y) : Wr Tryz.prog w0 (Unp.fs x y) 126 [.pointer (some ⟨bw, 0, none⟩), .agg (Unp.cs x y).toArray] bw x.enc := by
  obtain ⟨nm, l⟩ := x
  exact nF (typ_wn bw _ nm hok.1 y.1 y.2 l hok.2 (Nat.lt_succ_self _)) (Tp.enc_eq _ _).symm rfl
theorem term_wn {w0 : World} (bw : Nat) : ∀ n : Nat, ∀ (k : Int) (hk : dO k) (i : Int) (hi : dO i) (nm : ByteArray) (hnm : nm.size ≤ 9223372036854775807) (Al : Option Addr) (cl : Nat) (l : List Tm) (hl : l.length ≤ 9223372036854775807), SizeOf.sizeOf (Tm.mk k i nm l) < n → Wr Tryz.prog w0 [Sl (.slice Al l.length cl) l] 124 [.pointer (some ⟨bw, 0, none⟩), .agg #[.int .i64 k, .int .i64 i, .string nm, .slice Al l.length cl]] bw ([k, i].flatMap dA ++ (iU nm ++ ((dA l.length ++ l.flatMap Tm.enc)))) := by
  intro n
  induction n with
  | zero => exact fun k hk i hi nm hnm Al cl l hl h => absurd h (Nat.not_lt_zero _)
  | succ n ih =>
  intro k hIk i hi nm hnm Al cl l hl hsz
  have ih' : ∀ x ∈ l, ∀ y : Unp.Y Tm, Unp.ok x y → Wr Tryz.prog w0 (Unp.fs x y ++ []) 124 ([.pointer (some ⟨bw, 0, none⟩)] ++ [.agg (Unp.cs x y).toArray] ++ []) bw (Tm.enc x) := by
    intro x hx y hy
    have hlt := List.sizeOf_lt_of_mem hx
    obtain ⟨k', i', nm', l'⟩ := x
    exact nF (ih k' hy.1 i' hy.2.1 nm' hy.2.2.1 y.1 y.2 l' hy.2.2.2 (by simp only [Tm.mk.sizeOf_spec] at hsz hlt ⊢; omega)) (by rw [Tm.enc_eq]; simp only [List.flatMap_cons, List.flatMap_nil, List.append_nil, List.append_assoc]) rfl
  intro H R K KP bs v hsub hb hk hp
  try simp only [List.length_append] at hp
  refine dE Tryz.func124 rfl Tryz.ntmps124 fI ?_
  apply aF; apply aA
  repeat' ((refine bJ rfl rfl ?_; ((refine dX cW (fun b => ?_))); refine aB ?_))
  apply aH; apply aD
  refine fO 0 rfl ?_
  refine jB tH ?_
  have hS0 : Sl (.slice Al l.length cl) l ∈ R := hsub _ dB
  clear hsub
  repeat' (first | (apply aF) | (apply aA) | (apply aP; exact rfl; ((refine aQ rfl cL rfl ?_)); refine aB ?_) | (refine aE rfl rfl ?_; ((first | refine aG ?_ | refine aC rfl ?_)); refine aB ?_) | (refine bJ rfl rfl ?_; ((refine bK cQ fP rfl (fun b => ?_))); refine aB ?_))
  refine nX [k, i] rfl (by intro x hx; simp only [List.mem_cons, List.not_mem_nil, or_false] at hx; rcases hx with rfl | rfl <;> assumption) dB ?_
  repeat' (fail)
  refine fV rfl rfl (kC bw (some ⟨b, 0, none⟩) 2 [k, i] dB) (bT List.mem_cons_self (fun _ h => (by cases h))) rfl rfl hb (fun hle0 v0 => ?_) (fun hgt => ?_)
  rotate_left
  · skip
    repeat' ((apply aM))
    exact aR (cN H R dV (hp (by (omega))))
  refine aB ?_
  repeat' (first | (apply aF) | (apply aA) | (apply aH) | (apply aD) | (apply aP; exact rfl; ((refine aQ rfl cL rfl ?_)); refine aB ?_) | (refine aE rfl rfl ?_; ((first | refine aG ?_ | refine aC rfl ?_)); refine aB ?_))
  refine fV rfl rfl (yO bw nm hnm) (fun _ h => (by cases h)) rfl rfl (by rw [List.length_append]; exact hle0) (fun hle1 v1 => ?_) (fun hgt => ?_)
  rotate_left
  · skip
    repeat' ((apply aM))
    exact aR (cN H R dV (hp (by ((simp only [List.length_append] at hgt ⊢; omega)))))
  refine aB ?_
  repeat' (first | (apply aA) | (apply aH) | (apply aD) | (apply aP; exact rfl; ((refine aQ rfl cL rfl ?_)); refine aB ?_) | (refine aE rfl rfl ?_; ((first | refine aG ?_ | refine aC rfl ?_ | refine cR iE iE ?_)); refine aB ?_))
  refine fV rfl rfl (mQ rfl UnpL.len UnpL.one bw Al cl l 124 [.pointer (some ⟨bw, 0, none⟩)] [] Tm.enc [] hl ih') (bT aX (fun _ h => (by cases h))) rfl rfl (by rw [List.length_append]; exact hle1) (fun hle2 v2 => ?_) (fun hgt => ?_)
  rotate_left
  · skip
    repeat' (fail)
    exact aR (cN H R dV (hp (by ((simp only [List.length_append] at hgt ⊢; omega)))))
  refine aB ?_
  repeat' ((apply aH))
  refine aZ (.inr rfl) (gQ rfl) (fG _ R (fun w hs => ?_) (hk (by ((simp only [List.length_append] at hle2 ⊢; omega))) v2))
  try simp only [List.append_assoc] at hs ⊢
  exact hs.weaken eB hP
theorem rI {w0 : World} (bw : Nat) (x : Tm) (y : Unp.Y Tm) (hok : Unp.ok x y) : Wr Tryz.prog w0 (Unp.fs x y) 124 [.pointer (some ⟨bw, 0, none⟩), .agg (Unp.cs x y).toArray] bw x.enc := by
  obtain ⟨k, i, nm, l⟩ := x
  exact nF (term_wn bw _ k hok.1 i hok.2.1 nm hok.2.2.1 y.1 y.2 l hok.2.2.2 (Nat.lt_succ_self _)) (by rw [Tm.enc_eq]; simp only [List.flatMap_cons, List.flatMap_nil, List.append_nil, List.append_assoc]) rfl
end Go.Proofs.YtggdljhmbckpmaaGreat
namespace Go.Proofs.YtggdljhmbckpmaaGreat
open Go Go.RowKit
set_option maxRecDepth 100000
set_option maxHeartbeats 1600000

theorem frame_x {w0 : World} (bw : Nat) (Al1 : Option Addr) (cl1 : Nat) (l1 : List Tm) (hl1 : l1.length ≤ 9223372036854775807) (Al2 : Option Addr) (cl2 : Nat) (l2 : List Tm) (hl2 : l2.length ≤ 9223372036854775807) (n1 : Int) (hn1 : dO n1) (n2 : Int) (hn2 : dO n2) (n3 : Int) (hn3 : dO n3) : Wr Tryz.prog w0 [Sl (.slice Al1 l1.length cl1) l1, Sl (.slice Al2 l2.length cl2) l2] 70 [.pointer (some ⟨bw, 0, none⟩), .agg #[.slice Al1 l1.length cl1, .slice Al2 l2.length cl2, .int .i64 n1, .int .i64 n2, .int .i64 n3]] bw ((dA l1.length ++ l1.flatMap Tm.enc) ++ ((dA l2.length ++ l2.flatMap Tm.enc) ++ ([n1, n2, n3].flatMap dA))) := by
  intro H R K KP bs v hsub hb hk hp
  try simp only [List.length_append] at hp
  refine dE Tryz.func70 rfl Tryz.ntmps70 fI ?_
  apply aF; apply aA
  repeat' ((refine bJ rfl rfl ?_; ((refine dX cW (fun b => ?_))); refine aB ?_))
  apply aH; apply aD
  refine fO 0 rfl ?_
  refine jB tH ?_
  have hS0 : Sl (.slice Al1 l1.length cl1) l1 ∈ R := hsub _ dB
  have hS1 : Sl (.slice Al2 l2.length cl2) l2 ∈ R := hsub _ dB
  clear hsub
  repeat' (first | (apply aF) | (apply aA) | (apply aP; exact rfl; ((refine aQ rfl cL rfl ?_)); refine aB ?_) | (refine aE rfl rfl ?_; ((first | refine aG ?_ | refine aC rfl ?_ | refine cR iE iE ?_)); refine aB ?_))
  refine fV rfl rfl (mQ rfl UnpL.len UnpL.one bw Al1 cl1 l1 124 [.pointer (some ⟨bw, 0, none⟩)] [] Tm.enc [] hl1 (fun x hx y hy => by rw [List.append_nil]; exact rI bw x y hy)) (bT aX (fun _ h => (by cases h))) rfl rfl hb (fun hle0 v0 => ?_) (fun hgt => ?_)
  rotate_left
  · skip
    repeat' ((apply aM))
    exact aR (cN H R dV (hp (by ((simp only [List.length_append] at hgt ⊢; omega)))))
  refine aB ?_
  repeat' (first | (apply aF) | (apply aA) | (apply aH) | (apply aD) | (apply aP; exact rfl; ((refine aQ rfl cL rfl ?_)); refine aB ?_) | (refine aE rfl rfl ?_; ((first | refine aG ?_ | refine aC rfl ?_ | refine cR iE iE ?_)); refine aB ?_))
  refine fV rfl rfl (mQ rfl UnpL.len UnpL.one bw Al2 cl2 l2 124 [.pointer (some ⟨bw, 0, none⟩)] [] Tm.enc [] hl2 (fun x hx y hy => by rw [List.append_nil]; exact rI bw x y hy)) (bT aX (fun _ h => (by cases h))) rfl rfl (by rw [List.length_append]; exact hle0) (fun hle1 v1 => ?_) (fun hgt => ?_)
  rotate_left
  · skip
    repeat' ((apply aM))
    exact aR (cN H R dV (hp (by ((simp only [List.length_append] at hgt ⊢; omega)))))
  refine aB ?_
  repeat' (first | (apply aA) | (apply aH) | (apply aD) | (apply aP; exact rfl; ((refine aQ rfl cL rfl ?_)); refine aB ?_) | (refine aE rfl rfl ?_; ((first | refine aG ?_ | refine aC rfl ?_)); refine aB ?_) | (refine bJ rfl rfl ?_; ((refine bK cQ fP rfl (fun b => ?_))); refine aB ?_))
  refine nX [n1, n2, n3] rfl (by intro x hx; simp only [List.mem_cons, List.not_mem_nil, or_false] at hx; rcases hx with rfl | rfl | rfl <;> assumption) dB ?_
  repeat' (fail)
  refine fV rfl rfl (kC bw (some ⟨b, 0, none⟩) 3 [n1, n2, n3] dB) (bT List.mem_cons_self (fun _ h => (by cases h))) rfl rfl (by rw [List.length_append]; exact hle1) (fun hle2 v2 => ?_) (fun hgt => ?_)
  rotate_left
  · skip
    repeat' (fail)
    exact aR (cN H R dV (hp (by ((simp only [List.length_append] at hgt ⊢; omega)))))
  refine aB ?_
  repeat' ((apply aH))
  refine aZ (.inr rfl) (gQ rfl) (fG _ R (fun w hs => ?_) (hk (by ((simp only [List.length_append] at hle2 ⊢; omega))) v2))
  try simp only [List.append_assoc] at hs ⊢
  exact hs.weaken eB hP
theorem frame_w {w0 : World} (bw : Nat) (x : pU) (y : Unp.Y pU) (hok : Unp.ok x y) : Wr Tryz.prog w0 (Unp.fs x y) 70 [.pointer (some ⟨bw, 0, none⟩), .agg (Unp.cs x y).toArray] bw (Cod.enc x) := by
  obtain ⟨l1, l2, n1, n2, n3⟩ := x
  obtain ⟨⟨A1, c1⟩, ⟨A2, c2⟩, u1, u2, u3⟩ := y
  obtain ⟨h1, h2, h3, h4, h5⟩ := hok
  exact nF (frame_x bw A1 c1 l1 (Nat.le_trans h1.1 h1.2) A2 c2 l2 (Nat.le_trans h2.1 h2.2) n1 h3 n2 h4 n3 h5) (by simp only [Cod.enc, hY, List.flatMap_cons, List.flatMap_nil, List.append_nil, List.append_assoc]) rfl
theorem s9 {w0 : World} (bw : Nat) (n1 : Int) (hn1 : dO n1) (n2 : Int) (hn2 : dO n2) (Al1 : Option Addr) (cl1 : Nat) (l1 : List Int) (hl1 : l1.length ≤ 9223372036854775807) (b1 : Bool) (Al2 : Option Addr) (cl2 : Nat) (l2 : List Int) (hl2 : l2.length ≤ 9223372036854775807) (b2 : Bool) (n3 : Int) (hn3 : dO n3) : Wr Tryz.prog w0 [Sl (.slice Al1 l1.length cl1) l1, Sl (.slice Al2 l2.length cl2) l2] 72 [.pointer (some ⟨bw, 0, none⟩), .agg #[.int .i64 n1, .int .i64 n2, .slice Al1 l1.length cl1, .bool b1, .slice Al2 l2.length cl2, .bool b2, .int .i64 n3]] bw ([n1, n2].flatMap dA ++ (hY l1 ++ (iI b1 ++ (hY l2 ++ (iI b2 ++ (dA n3)))))) := by
  intro H R K KP bs v hsub hb hk hp
  try simp only [List.length_append] at hp
  refine dE Tryz.func72 rfl Tryz.ntmps72 fI ?_
  apply aF; apply aA
  repeat' ((refine bJ rfl rfl ?_; ((refine dX cW (fun b => ?_))); refine aB ?_))
  apply aH; apply aD
  refine fO 0 rfl ?_
  refine jB tH ?_
  have hS0 : Sl (.slice Al1 l1.length cl1) l1 ∈ R := hsub _ dB
  have hS1 : Sl (.slice Al2 l2.length cl2) l2 ∈ R := hsub _ dB
  clear hsub
  repeat' (first | (apply aF) | (apply aA) | (apply aP; exact rfl; ((refine aQ rfl cL rfl ?_)); refine aB ?_) | (refine aE rfl rfl ?_; ((first | refine aG ?_ | refine aC rfl ?_)); refine aB ?_) | (refine bJ rfl rfl ?_; ((refine bK cQ fP rfl (fun b => ?_))); refine aB ?_))
  refine nX [n1, n2] rfl (by intro x hx; simp only [List.mem_cons, List.not_mem_nil, or_false] at hx; rcases hx with rfl | rfl <;> assumption) dB ?_
  repeat' (fail)
  refine fV rfl rfl (kC bw (some ⟨b, 0, none⟩) 2 [n1, n2] dB) (bT List.mem_cons_self (fun _ h => (by cases h))) rfl rfl hb (fun hle0 v0 => ?_) (fun hgt => ?_)
  rotate_left
  · skip
    repeat' ((apply aM))
    exact aR (cN H R dV (hp (by (omega))))
  refine aB ?_
  repeat' (first | (apply aF) | (apply aA) | (apply aH) | (apply aD) | (apply aP; exact rfl; ((refine aQ rfl cL rfl ?_)); refine aB ?_) | (refine aE rfl rfl ?_; ((first | refine aG ?_ | refine aC rfl ?_)); refine aB ?_))
  refine fV rfl rfl (rU bw Al1 cl1 l1 hl1) (bT aX (fun _ h => (by cases h))) rfl rfl (by rw [List.length_append]; exact hle0) (fun hle1 v1 => ?_) (fun hgt => ?_)
  rotate_left
  · skip
    repeat' ((apply aM))
    exact aR (cN H R dV (hp (by ((simp only [List.length_append] at hgt ⊢; omega)))))
  refine aB ?_
  repeat' (first | (apply aF) | (apply aA) | (apply aH) | (apply aD) | (apply aP; exact rfl; ((refine aQ rfl cL rfl ?_)); refine aB ?_) | (refine aE rfl rfl ?_; ((first | refine aG ?_ | refine aC rfl ?_)); refine aB ?_))
  refine fV rfl rfl (qU bw b1) (fun _ h => (by cases h)) rfl rfl (by rw [List.length_append]; exact hle1) (fun hle2 v2 => ?_) (fun hgt => ?_)
  rotate_left
  · skip
    repeat' ((apply aM))
    exact aR (cN H R dV (hp (by ((simp only [List.length_append] at hgt ⊢; omega)))))
  refine aB ?_
  repeat' (first | (apply aF) | (apply aA) | (apply aH) | (apply aD) | (apply aP; exact rfl; ((refine aQ rfl cL rfl ?_)); refine aB ?_) | (refine aE rfl rfl ?_; ((first | refine aG ?_ | refine aC rfl ?_)); refine aB ?_))
  refine fV rfl rfl (rU bw Al2 cl2 l2 hl2) (bT aX (fun _ h => (by cases h))) rfl rfl (by rw [List.length_append]; exact hle2) (fun hle3 v3 => ?_) (fun hgt => ?_)
  rotate_left
  · skip
    repeat' ((apply aM))
    exact aR (cN H R dV (hp (by ((simp only [List.length_append] at hgt ⊢; omega)))))
  refine aB ?_
  repeat' (first | (apply aF) | (apply aA) | (apply aH) | (apply aD) | (apply aP; exact rfl; ((refine aQ rfl cL rfl ?_)); refine aB ?_) | (refine aE rfl rfl ?_; ((first | refine aG ?_ | refine aC rfl ?_)); refine aB ?_))
  refine fV rfl rfl (qU bw b2) (fun _ h => (by cases h)) rfl rfl (by rw [List.length_append]; exact hle3) (fun hle4 v4 => ?_) (fun hgt => ?_)
  rotate_left
  · skip
    repeat' ((apply aM))
    exact aR (cN H R dV (hp (by ((simp only [List.length_append] at hgt ⊢; omega)))))
  refine aB ?_
  repeat' (first | (apply aA) | (apply aH) | (apply aD) | (apply aP; exact rfl; ((refine aQ rfl cL rfl ?_)); refine aB ?_) | (refine aE rfl rfl ?_; ((first | refine aG ?_ | refine aC rfl ?_)); refine aB ?_))
  refine fV rfl rfl (gH bw n3 hn3) (fun _ h => (by cases h)) rfl rfl (by rw [List.length_append]; exact hle4) (fun hle5 v5 => ?_) (fun hgt => ?_)
  rotate_left
  · skip
    repeat' (fail)
    exact aR (cN H R dV (hp (by ((simp only [List.length_append] at hgt ⊢; omega)))))
  refine aB ?_
  repeat' ((apply aH))
  refine aZ (.inr rfl) (gQ rfl) (fG _ R (fun w hs => ?_) (hk (by ((simp only [List.length_append] at hle5 ⊢; omega))) v5))
  try simp only [List.append_assoc] at hs ⊢
  exact hs.weaken eB hP
theorem t5 {w0 : World} (bw : Nat) (x : pP) (y : Unp.Y pP) (hok : Unp.ok x y) : Wr Tryz.prog w0 (Unp.fs x y) 72 [.pointer (some ⟨bw, 0, none⟩), .agg (Unp.cs x y).toArray] bw (Cod.enc x) := by
  obtain ⟨n1, n2, l1, b1, l2, b2, n3⟩ := x
  obtain ⟨u1, u2, ⟨A1, c1⟩, u3, ⟨A2, c2⟩, u4, u5⟩ := y
  obtain ⟨h1, h2, h3, _, h4, _, h5⟩ := hok
  exact nF (s9 bw n1 h1 n2 h2 A1 c1 l1 (Nat.le_trans h3.1 h3.2) b1 A2 c2 l2 (Nat.le_trans h4.1 h4.2) b2 n3 h5) (by simp only [Cod.enc, hY, List.flatMap_cons, List.flatMap_nil, List.append_nil, List.append_assoc]) rfl
theorem scope_x {w0 : World} (bw : Nat) (n1 : Int) (hn1 : dO n1) (n2 : Int) (hn2 : dO n2) (n3 : Int) (hn3 : dO n3) (n4 : Int) (hn4 : dO n4) (Al1 : Option Addr) (cl1 : Nat) (l1 : List Tm) (hl1 : l1.length ≤ 9223372036854775807) (nm : ByteArray) (hnm : nm.size ≤ 9223372036854775807) (Al2 : Option Addr) (cl2 : Nat) (l2 : List Tm) (hl2 : l2.length ≤ 9223372036854775807) : Wr Tryz.prog w0 [Sl (.slice Al1 l1.length cl1) l1, Sl (.slice Al2 l2.length cl2) l2] 74 [.pointer (some ⟨bw, 0, none⟩), .agg #[.int .i64 n1, .int .i64 n2, .int .i64 n3, .int .i64 n4, .slice Al1 l1.length cl1, .string nm, .slice Al2 l2.length cl2]] bw ([n1, n2, n3, n4].flatMap dA ++ ((dA l1.length ++ l1.flatMap Tm.enc) ++ (iU nm ++ ((dA l2.length ++ l2.flatMap Tm.enc))))) := by
  intro H R K KP bs v hsub hb hk hp
  try simp only [List.length_append] at hp
  refine dE Tryz.func74 rfl Tryz.ntmps74 fI ?_
  apply aF; apply aA
  repeat' ((refine bJ rfl rfl ?_; ((refine dX cW (fun b => ?_))); refine aB ?_))
  apply aH; apply aD
  refine fO 0 rfl ?_
  refine jB tH ?_
  have hS0 : Sl (.slice Al1 l1.length cl1) l1 ∈ R := hsub _ dB
  have hS1 : Sl (.slice Al2 l2.length cl2) l2 ∈ R := hsub _ dB
  clear hsub
  repeat' (first | (apply aF) | (apply aA) | (apply aP; exact rfl; ((refine aQ rfl cL rfl ?_)); refine aB ?_) | (refine aE rfl rfl ?_; ((first | refine aG ?_ | refine aC rfl ?_)); refine aB ?_) | (refine bJ rfl rfl ?_; ((refine bK cQ fP rfl (fun b => ?_))); refine aB ?_))
  refine nX [n1, n2, n3, n4] rfl (by intro x hx; simp only [List.mem_cons, List.not_mem_nil, or_false] at hx; rcases hx with rfl | rfl | rfl | rfl <;> assumption) dB ?_
  repeat' (fail)
  refine fV rfl rfl (kC bw (some ⟨b, 0, none⟩) 4 [n1, n2, n3, n4] dB) (bT List.mem_cons_self (fun _ h => (by cases h))) rfl rfl hb (fun hle0 v0 => ?_) (fun hgt => ?_)
  rotate_left
  · skip
    repeat' ((apply aM))
    exact aR (cN H R dV (hp (by (omega))))
  refine aB ?_
  repeat' (first | (apply aF) | (apply aA) | (apply aH) | (apply aD) | (apply aP; exact rfl; ((refine aQ rfl cL rfl ?_)); refine aB ?_) | (refine aE rfl rfl ?_; ((first | refine aG ?_ | refine aC rfl ?_ | refine cR iE iE ?_)); refine aB ?_))
  refine fV rfl rfl (mQ rfl UnpL.len UnpL.one bw Al1 cl1 l1 124 [.pointer (some ⟨bw, 0, none⟩)] [] Tm.enc [] hl1 (fun x hx y hy => by rw [List.append_nil]; exact rI bw x y hy)) (bT aX (fun _ h => (by cases h))) rfl rfl (by rw [List.length_append]; exact hle0) (fun hle1 v1 => ?_) (fun hgt => ?_)
  rotate_left
  · skip
    repeat' ((apply aM))
    exact aR (cN H R dV (hp (by ((simp only [List.length_append] at hgt ⊢; omega)))))
  refine aB ?_
  repeat' (first | (refine aP rfl ?_; refine aQ (o := 0) (q := 5) rfl aX rfl ?_; refine aB ?_) | (apply aF) | (apply aA) | (apply aH) | (apply aD) | (refine aE rfl rfl ?_; ((first | refine aG ?_ | refine aC rfl ?_)); refine aB ?_))
  refine fV rfl rfl (yO bw nm hnm) (fun _ h => (by cases h)) rfl rfl (by rw [List.length_append]; exact hle1) (fun hle2 v2 => ?_) (fun hgt => ?_)
  rotate_left
  · skip
    repeat' ((apply aM))
    exact aR (cN H R dV (hp (by ((simp only [List.length_append] at hgt ⊢; omega)))))
  refine aB ?_
  repeat' (first | (refine aP rfl ?_; refine aQ (o := 0) (q := 6) rfl aX rfl ?_; refine aB ?_) | (apply aA) | (apply aH) | (apply aD) | (refine aE rfl rfl ?_; ((first | refine aG ?_ | refine aC rfl ?_ | refine cR iE iE ?_)); refine aB ?_))
  refine fV rfl rfl (mQ rfl UnpL.len UnpL.one bw Al2 cl2 l2 124 [.pointer (some ⟨bw, 0, none⟩)] [] Tm.enc [] hl2 (fun x hx y hy => by rw [List.append_nil]; exact rI bw x y hy)) (bT aX (fun _ h => (by cases h))) rfl rfl (by rw [List.length_append]; exact hle2) (fun hle3 v3 => ?_) (fun hgt => ?_)
  rotate_left
  · skip
    repeat' (fail)
    exact aR (cN H R dV (hp (by ((simp only [List.length_append] at hgt ⊢; omega)))))
  refine aB ?_
  repeat' ((apply aH))
  refine aZ (.inr rfl) (gQ rfl) (fG _ R (fun w hs => ?_) (hk (by ((simp only [List.length_append] at hle3 ⊢; omega))) v3))
  try simp only [List.append_assoc] at hs ⊢
  exact hs.weaken eB hP
theorem scope_w {w0 : World} (bw : Nat) (x : pR) (y : Unp.Y pR) (hok : Unp.ok x y) : Wr Tryz.prog w0 (Unp.fs x y) 74 [.pointer (some ⟨bw, 0, none⟩), .agg (Unp.cs x y).toArray] bw (Cod.enc x) := by
  obtain ⟨n1, n2, n3, n4, l1, nm, l2⟩ := x
  obtain ⟨u1, u2, u3, u4, ⟨A1, c1⟩, u5, ⟨A2, c2⟩⟩ := y
  obtain ⟨h1, h2, h3, h4, h5, h6, h7⟩ := hok
  exact nF (scope_x bw n1 h1 n2 h2 n3 h3 n4 h4 A1 c1 l1 (Nat.le_trans h5.1 h5.2) nm h6 A2 c2 l2 (Nat.le_trans h7.1 h7.2)) (by simp only [Cod.enc, hY, List.flatMap_cons, List.flatMap_nil, List.append_nil, List.append_assoc]) rfl
theorem val_x {w0 : World} (bw : Nat) (n1 : Int) (hn1 : dO n1) (tn : ByteArray) (htn : tn.size ≤ 9223372036854775807) (Atx : Option Addr) (ctx : Nat) (tx : List Tp) (htx : tx.length ≤ 9223372036854775807) (bo : Bool) (kk : Int) (hkk : dO kk) (ki : Int) (hki : dO ki) (kn : ByteArray) (hkn : kn.size ≤ 9223372036854775807) (Akx : Option Addr) (ckx : Nat) (kx : List Tm) (hkx : kx.length ≤ 9223372036854775807) : Wr Tryz.prog w0 [Sl (.slice Atx tx.length ctx) tx, Sl (.slice Akx kx.length ckx) kx] 76 [.pointer (some ⟨bw, 0, none⟩), .agg #[.int .i64 n1, .string tn, .slice Atx tx.length ctx, .bool bo, .int .i64 kk, .int .i64 ki, .string kn, .slice Akx kx.length ckx]] bw (dA n1 ++ (Tp.enc (.mk tn tx) ++ (iI bo ++ (Tm.enc (.mk kk ki kn kx))))) := by
  intro H R K KP bs v hsub hb hk hp
  try simp only [List.length_append] at hp
  refine dE Tryz.func76 rfl Tryz.ntmps76 fI ?_
  apply aF; apply aA
  repeat' ((refine bJ rfl rfl ?_; ((refine dX cW (fun b => ?_))); refine aB ?_))
  apply aH; apply aD
  refine fO 0 rfl ?_
  refine jB tH ?_
  have hS0 : Sl (.slice Atx tx.length ctx) tx ∈ R := hsub _ dB
  have hS1 : Sl (.slice Akx kx.length ckx) kx ∈ R := hsub _ dB
  clear hsub
  repeat' (first | (apply aF) | (apply aA) | (apply aP; exact rfl; ((refine aQ rfl cL rfl ?_)); refine aB ?_) | (refine aE rfl rfl ?_; ((first | refine aG ?_ | refine aC rfl ?_)); refine aB ?_))
  refine fV rfl rfl (gH bw n1 hn1) (fun _ h => (by cases h)) rfl rfl hb (fun hle0 v0 => ?_) (fun hgt => ?_)
  rotate_left
  · skip
    repeat' ((apply aM))
    exact aR (cN H R dV (hp (by (omega))))
  refine aB ?_
  repeat' (first | (apply aF) | (apply aA) | (apply aH) | (apply aD) | (apply aP; exact rfl; ((refine aQ rfl cL rfl ?_)); refine aB ?_) | (refine aE rfl rfl ?_; ((first | refine aG ?_ | refine aC rfl ?_)); refine aB ?_))
  refine fV rfl rfl (typ_w bw (.mk tn tx) (Atx, ctx) ⟨htn, htx⟩) (bT aX (fun _ h => (by cases h))) rfl rfl (by rw [List.length_append]; exact hle0) (fun hle1 v1 => ?_) (fun hgt => ?_)
  rotate_left
  · skip
    repeat' ((apply aM))
    exact aR (cN H R dV (hp (by ((simp only [List.length_append] at hgt ⊢; omega)))))
  refine aB ?_
  repeat' (first | (apply aF) | (apply aA) | (apply aH) | (apply aD) | (apply aP; exact rfl; ((refine aQ rfl cL rfl ?_)); refine aB ?_) | (refine aE rfl rfl ?_; ((first | refine aG ?_ | refine aC rfl ?_)); refine aB ?_))
  refine fV rfl rfl (qU bw bo) (fun _ h => (by cases h)) rfl rfl (by rw [List.length_append]; exact hle1) (fun hle2 v2 => ?_) (fun hgt => ?_)
  rotate_left
  · skip
    repeat' ((apply aM))
    exact aR (cN H R dV (hp (by ((simp only [List.length_append] at hgt ⊢; omega)))))
  refine aB ?_
  repeat' (first | (apply aA) | (apply aH) | (apply aD) | (apply aP; exact rfl; ((refine aQ rfl cL rfl ?_)); refine aB ?_) | (refine aE rfl rfl ?_; ((first | refine aG ?_ | refine aC rfl ?_)); refine aB ?_))
  refine fV rfl rfl (rI bw (.mk kk ki kn kx) (Akx, ckx) ⟨hkk, hki, hkn, hkx⟩) (bT aX (fun _ h => (by cases h))) rfl rfl (by rw [List.length_append]; exact hle2) (fun hle3 v3 => ?_) (fun hgt => ?_)
  rotate_left
  · skip
    repeat' (fail)
    exact aR (cN H R dV (hp (by ((simp only [List.length_append] at hgt ⊢; omega)))))
  refine aB ?_
  repeat' ((apply aH))
  refine aZ (.inr rfl) (gQ rfl) (fG _ R (fun w hs => ?_) (hk (by ((simp only [List.length_append] at hle3 ⊢; omega))) v3))
  try simp only [List.append_assoc] at hs ⊢
  exact hs.weaken eB hP
theorem val_w {w0 : World} (bw : Nat) (x : mU) (y : Unp.Y mU) (hok : Unp.ok x y) : Wr Tryz.prog w0 (Unp.fs x y) 76 [.pointer (some ⟨bw, 0, none⟩), .agg (Unp.cs x y).toArray] bw (Cod.enc x) := by
  obtain ⟨n1, ⟨tn, tx⟩, bo, ⟨k, i, kn, kx⟩⟩ := x
  obtain ⟨u1, ⟨A1, c1⟩, u3, ⟨A2, c2⟩⟩ := y
  obtain ⟨h1, ⟨h2, h3⟩, _, h4, h5, h6, h7⟩ := hok
  exact nF (val_x bw n1 h1 tn h2 A1 c1 tx h3 bo k h4 i h5 kn h6 A2 c2 kx h7) (by simp only [Cod.enc, hY, List.flatMap_cons, List.flatMap_nil, List.append_nil, List.append_assoc]) rfl
end Go.Proofs.YtggdljhmbckpmaaGreat
