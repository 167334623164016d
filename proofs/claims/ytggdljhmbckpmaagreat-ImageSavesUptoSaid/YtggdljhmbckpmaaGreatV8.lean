/- The reference's reader: the lists of a state: walks, printed by gen_vf.py. -/
import Derived.Test.YtggdljhmbckpmaaGreatV6J
set_option linter.unusedVariables false
set_option linter.unusedSimpArgs false
namespace Go.Proofs.YtggdljhmbckpmaaGreat
open Go Go.RowKit
set_option maxRecDepth 100000
set_option maxHeartbeats 6400000

section
variable {F : Fence} {n : Nat} {P : Program} {w0 : World} {D : List Deferred} {ops : Array Oper} {Q : Exit → Act → World → Prop} {rest : List Oper} {E : List Value} {H : List Hp} {R : List MP}
theorem TC_rot2 {co : Code} {x y z : Hp} (k : TC F n P w0 D co Q E (z :: y :: x :: H) R) : TC F n P w0 D co Q E (x :: y :: z :: H) R := eJ _ _ (fun w hs => ((hs.perm (List.Perm.cons x (List.Perm.swap z y H))).perm (List.Perm.swap z x (y :: H))).perm (List.Perm.cons z (List.Perm.swap y x H))) k
theorem T_sw {x y : Hp} (k : T F n P w0 D ops Q rest E (y :: x :: H) R) : T F n P w0 D ops Q rest E (x :: y :: H) R := eU _ _ (fun w hs => hs.perm (List.Perm.swap _ _ _)) k
end
theorem lists_f {w0 : World} (br : Nat) (A : Option Addr) (c : Nat) (xs : List UInt8) (hx : xs.length ≤ 250000) (z1 z2 z3 z4 z5 z6 : Int) (z7 : Bool) (A7 : Option Addr) (n7 c7 : Nat) (A8 : Option Addr) (n8 c8 : Nat) (H : List Hp) (R : List MP) (K : Value → List Hp → List MP → Prop) (a : Nat) (b0 : Bool) (o : Nat) (hax : a ≤ xs.length) (hm : Sl (.slice A xs.length c) xs ∈ R)
    (hk : ∀ (x1 : List pU) (x2 : List pP) (x3 : List pR) (x4 : List mU) (x5 : List nJ) (x6 : List pL) a' b' o' (A1' : Option Addr) (c1' : Nat) (A2' : Option Addr) (c2' : Nat) (A3' : Option Addr) (c3' : Nat) (A4' : Option Addr) (c4' : Nat) (A5' : Option Addr) (c5' : Nat) (A6' : Option Addr) (c6' : Nat), (∀ {β : Type} (d : Dc β) (z : β) (s2 : RS), Out xs d ⟨a', b', o'⟩ z s2 → Out xs (cK (dY xs (frD xs)) (cK (dY xs (i8 xs)) (cK (dY xs (zV xs)) (cK (dY xs (vaD xs)) (cK (dY xs (trD xs)) (cK (dY xs (sR xs)) d)))))) ⟨a, b0, o⟩ (x1, x2, x3, x4, x5, x6, z) s2) → a ≤ a' → a' ≤ xs.length → (x1.length ≤ c1' ∧ c1' ≤ eO) ∧ (x2.length ≤ c2' ∧ c2' ≤ eO) ∧ (x3.length ≤ c3' ∧ c3' ≤ eO) ∧ (x4.length ≤ c4' ∧ c4' ≤ eO) ∧ (x5.length ≤ c5' ∧ c5' ≤ eO) ∧ (x6.length ≤ c6' ∧ c6' ≤ eO) → K (.agg #[.int .i64 z1, .int .i64 z2, .int .i64 z3, .int .i64 z4, .int .i64 z5, .int .i64 z6, .bool z7, .slice A7 n7 c7, .slice A8 n8 c8, .slice A1' x1.length c1', .slice A2' x2.length c2', .slice A3' x3.length c3', .slice A4' x4.length c4', .slice A5' x5.length c5', .slice A6' x6.length c6', .int .i64 0]) (.blk br (iA A c xs a' b' o') 105 :: H) (Sl (.slice A1' x1.length c1') x1 :: Sl (.slice A2' x2.length c2') x2 :: Sl (.slice A3' x3.length c3') x3 :: Sl (.slice A4' x4.length c4') x4 :: Sl (.slice A5' x5.length c5') x5 :: Sl (.slice A6' x6.length c6') x6 :: R)) :
    CallsK Tryz.prog w0 45 #[.pointer (some ⟨br, 0, none⟩), .agg #[.int .i64 z1, .int .i64 z2, .int .i64 z3, .int .i64 z4, .int .i64 z5, .int .i64 z6, .bool z7, .slice A7 n7 c7, .slice A8 n8 c8, .slice none 0 0, .slice none 0 0, .slice none 0 0, .slice none 0 0, .slice none 0 0, .slice none 0 0, .int .i64 0]] (.blk br (iA A c xs a b0 o) 105 :: H) R K := by
  refine bV Tryz.func45 rfl Tryz.ntmps45 fI ?_
  apply aF; apply aA
  repeat' ((refine bJ rfl rfl ?_; ((first | refine dX cW (fun b => ?_) | refine bL cW (fun b => ?_))); refine aB ?_))
  apply aH; apply aD
  revert b
  intro bz
  revert b
  intro bt
  refine TC_rot2 ?_
  repeat' (first | (apply aF) | (apply aA) | (refine aE rfl rfl ?_; ((refine aG ?_)); refine aB ?_))
  refine lK rfl rfl hx hax aX (fun n11 a11' b11' o11' ho11 le11' hz11 hp11 hle11' => ?_)
  refine aB ?_
  repeat' ((refine aE rfl rfl ?_; ((refine aY ?_)); refine aB ?_))
  apply aH; apply aD
  refine kL [6, 7, 20, 21, 22, 23, 24, 25, 26, 27, 28, 29, 30, 31, 32, 33, 34, 35, 36, 37, 38, 39] (fun j H' R' => ∃ (a' o' : Nat) (b' : Bool) (A' : Option Addr) (c' : Nat) (l : List pU), H' = .blk br (iA A c xs a' b' o') 105 :: .blk bt [.int .i64 z1, .int .i64 z2, .int .i64 z3, .int .i64 z4, .int .i64 z5, .int .i64 z6, .bool z7, .slice A7 n7 c7, .slice A8 n8 c8, (.slice A' l.length c'), .slice none 0 0, .slice none 0 0, .slice none 0 0, .slice none 0 0, .slice none 0 0, .int .i64 0] 32 :: .blk bz [.int .i64 0, .int .i64 0, .int .i64 0, .int .i64 0, .int .i64 0, .int .i64 0, .bool false, .slice none 0 0, .slice none 0 0, .slice none 0 0, .slice none 0 0, .slice none 0 0, .slice none 0 0, .slice none 0 0, .slice none 0 0, .int .i64 0] 32 :: H ∧ R' = Sl (.slice A' l.length c') l :: R ∧ Out xs (dY xs (frD xs)) ⟨a, b0, o⟩ l ⟨a', b', o'⟩ ∧ a  ≤ a' ∧ a' ≤ xs.length ∧ (l.length ≤ c' ∧ c' ≤ eO)) ?_ ?_
  · skip
    repeat' (first | (apply aF) | (apply aA) | (apply aV) | (apply aH) | (apply aD) | (refine aE rfl rfl ?_; ((refine aY ?_)); refine aB ?_))
    refine eJ (.blk br (iA A c xs a11' b11' o11') 105 :: .row (.slice none 0 0) 143 5 0 [] :: .blk bt [.int .i64 z1, .int .i64 z2, .int .i64 z3, .int .i64 z4, .int .i64 z5, .int .i64 z6, .bool z7, .slice A7 n7 c7, .slice A8 n8 c8, .slice none 0 0, .slice none 0 0, .slice none 0 0, .slice none 0 0, .slice none 0 0, .slice none 0 0, .int .i64 0] 32 :: .blk bz [.int .i64 0, .int .i64 0, .int .i64 0, .int .i64 0, .int .i64 0, .int .i64 0, .bool false, .slice none 0 0, .slice none 0 0, .slice none 0 0, .slice none 0 0, .slice none 0 0, .slice none 0 0, .slice none 0 0, .slice none 0 0, .int .i64 0] 32 :: H) (Cx [] ([] : List pU) :: (R)) (fun w hs => ((hs.nilrow 143 5).perm (List.Perm.swap _ _ _)).learn (Cx [] ([] : List pU)) (fun s _ => gN s)) ?_
    refine cM [6, 7, 20, 21, 22, 23, 24, 25, 26, 27, 28, 29, 30, 31, 32, 33, 34, 35, 36, 37, 38, 39] (fun k j H2 R2 => ∃ (i a' o' : Nat) (b' : Bool) (A0 : Option Addr) (c0 : Nat) (cs : List Value) (l : List pU), i + k = n11 ∧ j 6 = .int .i64 (i : Int) ∧ (∀ p ∈ (R), p ∈ R2) ∧ Cx cs l ∈ R2 ∧ H2 = .blk br (iA A c xs a' b' o') 105 :: .row (.slice A0 i c0) 143 5 i cs :: .blk bt [.int .i64 z1, .int .i64 z2, .int .i64 z3, .int .i64 z4, .int .i64 z5, .int .i64 z6, .bool z7, .slice A7 n7 c7, .slice A8 n8 c8, .slice A0 i c0, .slice none 0 0, .slice none 0 0, .slice none 0 0, .slice none 0 0, .slice none 0 0, .int .i64 0] 32 :: .blk bz [.int .i64 0, .int .i64 0, .int .i64 0, .int .i64 0, .int .i64 0, .int .i64 0, .bool false, .slice none 0 0, .slice none 0 0, .slice none 0 0, .slice none 0 0, .slice none 0 0, .slice none 0 0, .slice none 0 0, .slice none 0 0, .int .i64 0] 32 :: H ∧ a11' ≤ a' ∧ a' ≤ xs.length ∧ l.length = i ∧ Lp (frD xs) n11 a11' b11' o11' k l a' b' o') n11 eS ⟨0, a11', o11', b11', none, 0, [], [], by omega, rfl, (fun _ h => List.mem_cons_of_mem _ h), List.mem_cons_self, rfl, Nat.le_refl _, by omega, rfl, Lp.start _ _ _ _ _⟩ ?_
    rintro k j' H2 R2 ⟨i, a', o', b', A0, c0, cs, l, hik, hji, hR2, hcx, hH2, haa, ha', hli, hlp⟩
    subst hH2
    have hmx := hR2 _ (show Sl (.slice A xs.length c) xs ∈ _ from aX)
    refine dD (by simp only [eF, List.foldl_cons, List.foldl_nil, List.set_cons_succ, List.set_cons_zero, hji]; rfl) ?_
    rcases Nat.lt_or_ge i n11 with hlt | hge
    rotate_left
    · obtain rfl : k = 0 := by omega
      have hdone := Lp.done ho11 hlp (.inr rfl) haa ha'
      repeat' (first | (apply aF) | (apply aA) | (apply cG) | (apply aJ; exact rfl) | (apply aH) | (apply aD) | (apply aW) | (apply aS) | (apply aU; exact rfl; ((refine bQ rfl rfl (fun h => ?_) (fun h => ?_))) <;> (first | (exfalso; omega) | refine aB ?_)) | (refine aE rfl rfl ?_; ((first | refine aG ?_ | refine cH rfl eR ?_)); refine aB ?_) | (refine cX rfl ?_; refine aB ?_))
      subst hli
      refine eH 1 rfl rfl cQ hcx (fun A' c' hv => ?_)
      cases hv
      refine fL (fun w hs => dN hs List.mem_cons_self) (fun hb => ?_)
      exact gJ _ (Sl (.slice A0 l.length c0) l :: R) eS ⟨a', o', _, A0, c0, l, rfl, rfl, hdone, by omega, ha', hb⟩ (fun w hs => hs.weaken (List.Sublist.refl _) (bT List.mem_cons_self (fun p hp => List.mem_cons_of_mem _ (hR2 p hp))))
    cases b' with
    | true =>
      have hdone := Lp.done ho11 hlp (.inl rfl) haa ha'
      repeat' (first | (apply aF) | (apply aA) | (apply cG) | (apply aJ; exact rfl) | (apply aH) | (apply aD) | (apply aW) | (apply aS) | (apply aP; exact rfl; ((refine aL (i := 0) rfl rfl rfl ?_)); refine aB ?_) | (apply aU; exact rfl; ((refine bQ rfl rfl (fun h => ?_) (fun h => ?_))) <;> (first | (exfalso; omega) | refine aB ?_)) | (refine aE rfl rfl ?_; ((first | refine aG ?_ | refine bX rfl eR ?_ | refine bA rfl ?_ | refine aC rfl ?_ | refine dJ rfl ?_)); refine aB ?_))
      subst hli
      refine eH 1 rfl rfl cQ hcx (fun A' c' hv => ?_)
      cases hv
      refine fL (fun w hs => dN hs List.mem_cons_self) (fun hb => ?_)
      exact gJ _ (Sl (.slice A0 l.length c0) l :: R) eS ⟨a', o', _, A0, c0, l, rfl, rfl, hdone, by omega, ha', hb⟩ (fun w hs => hs.weaken (List.Sublist.refl _) (bT List.mem_cons_self (fun p hp => List.mem_cons_of_mem _ (hR2 p hp))))
    | false =>
      obtain ⟨k', rfl⟩ : ∃ k', k = k' + 1 := ⟨k - 1, by omega⟩
      have hb1 := (hlp.ok rfl).1
      repeat' (first | (apply aF) | (apply aA) | (apply aV) | (apply bF) | (apply aK; exact rfl) | (apply aH) | (apply aD) | (apply aP; exact rfl; ((refine aL (i := 0) rfl rfl rfl ?_)); refine aB ?_) | (apply aU; exact rfl; ((refine bQ rfl rfl (fun h => ?_) (fun h => ?_))) <;> (first | (exfalso; omega) | refine aB ?_)) | (refine aE rfl rfl ?_; ((first | refine aG ?_ | refine bX rfl eR ?_ | refine bA rfl ?_ | refine aC rfl ?_ | refine dJ rfl ?_)); refine aB ?_))
      refine qR rfl rfl ((frame_f br A c xs hx).g (Nat.zero_le _)) aO ha' hmx (fun x a2' b2' o2' y hd h3' h4' hok => ?_)
      refine aB ?_
      repeat' ((refine bJ rfl rfl ?_; ((refine bL cW (fun b => ?_))); refine aB ?_))
      refine bJ rfl rfl ?_
      refine aN (i := 0) (vs := Unp.cs x y) rfl rfl rfl (UnpL.len x y) (show 0 + 5 ≤ 5 by omega) (UnpL.one x y) ?_
      rw [eI (by rw [UnpL.len]; rfl)]
      refine aB ?_
      refine cE ?_
      repeat' (first | (refine aP rfl ?_; refine aL (i := 0) rfl rfl (cU (by rw [UnpL.len]; rfl)) ?_; refine aB ?_) | (refine bJ rfl rfl ?_; refine fR (cs := Unp.cs x y) cQ rfl (by rw [UnpL.len]; rfl) (fun b9 => ?_); refine aB ?_) | (refine bJ rfl rfl ?_; refine dF 3 0 (news := Unp.cs x y) rfl rfl rfl rfl cQ (by rw [UnpL.len]; rfl) (UnpL.one x y) aO aO (fun v' => ?_); refine aB ?_; refine cE ?_; refine gY 3 rfl (fun A9 c9 hv9 => ?_); subst hv9) | (apply aA) | (apply aH) | (apply aD) | (apply bU) | (apply aP; exact rfl; ((refine aL (i := 3) rfl rfl rfl ?_)); refine aB ?_) | (apply aU; exact rfl; ((refine bM rfl rfl aO aO ?_)); refine aB ?_) | (apply bE; exact rfl; ((refine aN (i := 4) rfl cW rfl dT dB eK ?_)); refine aB ?_; refine cE ?_) | (refine aE rfl rfl ?_; ((first | refine aG ?_ | refine aY ?_ | refine aC rfl ?_)); refine aB ?_))
      exact cJ k' (.blk br (iA A c xs a2' b2' o2') 105 :: .row (.slice A9 (i + 1) c9) 143 5 (i + 1) (cs ++ Unp.cs x y) :: .blk bt [.int .i64 z1, .int .i64 z2, .int .i64 z3, .int .i64 z4, .int .i64 z5, .int .i64 z6, .bool z7, .slice A7 n7 c7, .slice A8 n8 c8, .slice A9 (i + 1) c9, .slice none 0 0, .slice none 0 0, .slice none 0 0, .slice none 0 0, .slice none 0 0, .int .i64 0] 32 :: .blk bz [.int .i64 0, .int .i64 0, .int .i64 0, .int .i64 0, .int .i64 0, .int .i64 0, .bool false, .slice none 0 0, .slice none 0 0, .slice none 0 0, .slice none 0 0, .slice none 0 0, .slice none 0 0, .slice none 0 0, .slice none 0 0, .int .i64 0] 32 :: H) (Cx (cs ++ Unp.cs x y) (l ++ [x]) :: (R)) aO eS ⟨i + 1, a2', o2', b2', A9, c9, cs ++ Unp.cs x y, l ++ [x], by omega, rfl, (fun _ h => List.mem_cons_of_mem _ h), List.mem_cons_self, rfl, by omega, h4', by simp [hli], hlp.step hd⟩ (fun w hs => (hs.learn (Cx (cs ++ Unp.cs x y) (l ++ [x])) (fun s hR => eZ (hR (Cx cs l) (List.mem_append_right _ hcx)) (Unp.re hok (fun p hp => hR p (List.mem_append_left _ hp))))).weaken (.cons _ (.cons _ (List.Sublist.refl _))) (bT List.mem_cons_self (fun p hp => List.mem_cons_of_mem _ (List.mem_append_right _ (hR2 p hp)))))
  rintro j11 H11 R11 ⟨a11, o11, b11, A11, c11, x11, hH11, hR11, h11, le11, hle11, ok11⟩
  subst hH11 hR11
  refine dD (by simp only [eF, List.foldl_cons, List.foldl_nil, List.set_cons_succ, List.set_cons_zero]; rfl) ?_
  repeat' (first | (apply aF) | (apply aA) | (refine aE rfl rfl ?_; ((refine aG ?_)); refine aB ?_))
  refine lK rfl rfl hx hle11 aX (fun n12 a12' b12' o12' ho12 le12' hz12 hp12 hle12' => ?_)
  refine aB ?_
  repeat' ((refine aE rfl rfl ?_; ((refine aY ?_)); refine aB ?_))
  apply aH; apply aD
  refine kL [8, 9, 42, 43, 44, 45, 46, 47, 48, 49, 50, 51, 52, 53, 54, 55, 56, 57, 58, 59, 60, 61] (fun j H' R' => ∃ (a' o' : Nat) (b' : Bool) (A' : Option Addr) (c' : Nat) (l : List pP), H' = .blk br (iA A c xs a' b' o') 105 :: .blk bt [.int .i64 z1, .int .i64 z2, .int .i64 z3, .int .i64 z4, .int .i64 z5, .int .i64 z6, .bool z7, .slice A7 n7 c7, .slice A8 n8 c8, .slice A11 x11.length c11, (.slice A' l.length c'), .slice none 0 0, .slice none 0 0, .slice none 0 0, .slice none 0 0, .int .i64 0] 32 :: .blk bz [.int .i64 0, .int .i64 0, .int .i64 0, .int .i64 0, .int .i64 0, .int .i64 0, .bool false, .slice none 0 0, .slice none 0 0, .slice none 0 0, .slice none 0 0, .slice none 0 0, .slice none 0 0, .slice none 0 0, .slice none 0 0, .int .i64 0] 32 :: H ∧ R' = Sl (.slice A' l.length c') l :: Sl (.slice A11 x11.length c11) x11 :: R ∧ Out xs (dY xs (i8 xs)) ⟨a11, b11, o11⟩ l ⟨a', b', o'⟩ ∧ a11  ≤ a' ∧ a' ≤ xs.length ∧ (l.length ≤ c' ∧ c' ≤ eO)) ?_ ?_
  · skip
    repeat' (first | (apply aF) | (apply aA) | (apply aV) | (apply aH) | (apply aD) | (refine aE rfl rfl ?_; ((refine aY ?_)); refine aB ?_))
    refine eJ (.blk br (iA A c xs a12' b12' o12') 105 :: .row (.slice none 0 0) 147 7 0 [] :: .blk bt [.int .i64 z1, .int .i64 z2, .int .i64 z3, .int .i64 z4, .int .i64 z5, .int .i64 z6, .bool z7, .slice A7 n7 c7, .slice A8 n8 c8, .slice A11 x11.length c11, .slice none 0 0, .slice none 0 0, .slice none 0 0, .slice none 0 0, .slice none 0 0, .int .i64 0] 32 :: .blk bz [.int .i64 0, .int .i64 0, .int .i64 0, .int .i64 0, .int .i64 0, .int .i64 0, .bool false, .slice none 0 0, .slice none 0 0, .slice none 0 0, .slice none 0 0, .slice none 0 0, .slice none 0 0, .slice none 0 0, .slice none 0 0, .int .i64 0] 32 :: H) (Cx [] ([] : List pP) :: (Sl (.slice A11 x11.length c11) x11 :: R)) (fun w hs => ((hs.nilrow 147 7).perm (List.Perm.swap _ _ _)).learn (Cx [] ([] : List pP)) (fun s _ => gN s)) ?_
    refine cM [8, 9, 42, 43, 44, 45, 46, 47, 48, 49, 50, 51, 52, 53, 54, 55, 56, 57, 58, 59, 60, 61] (fun k j H2 R2 => ∃ (i a' o' : Nat) (b' : Bool) (A0 : Option Addr) (c0 : Nat) (cs : List Value) (l : List pP), i + k = n12 ∧ j 8 = .int .i64 (i : Int) ∧ (∀ p ∈ (Sl (.slice A11 x11.length c11) x11 :: R), p ∈ R2) ∧ Cx cs l ∈ R2 ∧ H2 = .blk br (iA A c xs a' b' o') 105 :: .row (.slice A0 i c0) 147 7 i cs :: .blk bt [.int .i64 z1, .int .i64 z2, .int .i64 z3, .int .i64 z4, .int .i64 z5, .int .i64 z6, .bool z7, .slice A7 n7 c7, .slice A8 n8 c8, .slice A11 x11.length c11, .slice A0 i c0, .slice none 0 0, .slice none 0 0, .slice none 0 0, .slice none 0 0, .int .i64 0] 32 :: .blk bz [.int .i64 0, .int .i64 0, .int .i64 0, .int .i64 0, .int .i64 0, .int .i64 0, .bool false, .slice none 0 0, .slice none 0 0, .slice none 0 0, .slice none 0 0, .slice none 0 0, .slice none 0 0, .slice none 0 0, .slice none 0 0, .int .i64 0] 32 :: H ∧ a12' ≤ a' ∧ a' ≤ xs.length ∧ l.length = i ∧ Lp (i8 xs) n12 a12' b12' o12' k l a' b' o') n12 eS ⟨0, a12', o12', b12', none, 0, [], [], by omega, rfl, (fun _ h => List.mem_cons_of_mem _ h), List.mem_cons_self, rfl, Nat.le_refl _, by omega, rfl, Lp.start _ _ _ _ _⟩ ?_
    rintro k j' H2 R2 ⟨i, a', o', b', A0, c0, cs, l, hik, hji, hR2, hcx, hH2, haa, ha', hli, hlp⟩
    subst hH2
    have hmx := hR2 _ (show Sl (.slice A xs.length c) xs ∈ _ from aX)
    refine dD (by simp only [eF, List.foldl_cons, List.foldl_nil, List.set_cons_succ, List.set_cons_zero, hji]; rfl) ?_
    rcases Nat.lt_or_ge i n12 with hlt | hge
    rotate_left
    · obtain rfl : k = 0 := by omega
      have hdone := Lp.done ho12 hlp (.inr rfl) haa ha'
      repeat' (first | (apply aF) | (apply aA) | (apply cG) | (apply aJ; exact rfl) | (apply aH) | (apply aD) | (apply aW) | (apply aS) | (apply aU; exact rfl; ((refine bQ rfl rfl (fun h => ?_) (fun h => ?_))) <;> (first | (exfalso; omega) | refine aB ?_)) | (refine aE rfl rfl ?_; ((first | refine aG ?_ | refine cH rfl eR ?_)); refine aB ?_) | (refine cX rfl ?_; refine aB ?_))
      subst hli
      refine eH 1 rfl rfl cQ hcx (fun A' c' hv => ?_)
      cases hv
      refine fL (fun w hs => dN hs List.mem_cons_self) (fun hb => ?_)
      exact gJ _ (Sl (.slice A0 l.length c0) l :: Sl (.slice A11 x11.length c11) x11 :: R) eS ⟨a', o', _, A0, c0, l, rfl, rfl, hdone, by omega, ha', hb⟩ (fun w hs => hs.weaken (List.Sublist.refl _) (bT List.mem_cons_self (fun p hp => List.mem_cons_of_mem _ (hR2 p hp))))
    cases b' with
    | true =>
      have hdone := Lp.done ho12 hlp (.inl rfl) haa ha'
      repeat' (first | (apply aF) | (apply aA) | (apply cG) | (apply aJ; exact rfl) | (apply aH) | (apply aD) | (apply aW) | (apply aS) | (apply aP; exact rfl; ((refine aL (i := 0) rfl rfl rfl ?_)); refine aB ?_) | (apply aU; exact rfl; ((refine bQ rfl rfl (fun h => ?_) (fun h => ?_))) <;> (first | (exfalso; omega) | refine aB ?_)) | (refine aE rfl rfl ?_; ((first | refine aG ?_ | refine bX rfl eR ?_ | refine bA rfl ?_ | refine aC rfl ?_ | refine dJ rfl ?_)); refine aB ?_))
      subst hli
      refine eH 1 rfl rfl cQ hcx (fun A' c' hv => ?_)
      cases hv
      refine fL (fun w hs => dN hs List.mem_cons_self) (fun hb => ?_)
      exact gJ _ (Sl (.slice A0 l.length c0) l :: Sl (.slice A11 x11.length c11) x11 :: R) eS ⟨a', o', _, A0, c0, l, rfl, rfl, hdone, by omega, ha', hb⟩ (fun w hs => hs.weaken (List.Sublist.refl _) (bT List.mem_cons_self (fun p hp => List.mem_cons_of_mem _ (hR2 p hp))))
    | false =>
      obtain ⟨k', rfl⟩ : ∃ k', k = k' + 1 := ⟨k - 1, by omega⟩
      have hb1 := (hlp.ok rfl).1
      repeat' (first | (apply aF) | (apply aA) | (apply aV) | (apply bF) | (apply aK; exact rfl) | (apply aH) | (apply aD) | (apply aP; exact rfl; ((refine aL (i := 0) rfl rfl rfl ?_)); refine aB ?_) | (apply aU; exact rfl; ((refine bQ rfl rfl (fun h => ?_) (fun h => ?_))) <;> (first | (exfalso; omega) | refine aB ?_)) | (refine aE rfl rfl ?_; ((first | refine aG ?_ | refine bX rfl eR ?_ | refine bA rfl ?_ | refine aC rfl ?_ | refine dJ rfl ?_)); refine aB ?_))
      refine qR rfl rfl ((p9 br A c xs hx).g (Nat.zero_le _)) aO ha' hmx (fun x a2' b2' o2' y hd h3' h4' hok => ?_)
      refine aB ?_
      repeat' ((refine bJ rfl rfl ?_; ((refine bL cW (fun b => ?_))); refine aB ?_))
      refine bJ rfl rfl ?_
      refine aN (i := 0) (vs := Unp.cs x y) rfl rfl rfl (UnpL.len x y) (show 0 + 7 ≤ 7 by omega) (UnpL.one x y) ?_
      rw [eI (by rw [UnpL.len]; rfl)]
      refine aB ?_
      refine cE ?_
      repeat' (first | (refine aP rfl ?_; refine aL (i := 0) rfl rfl (cU (by rw [UnpL.len]; rfl)) ?_; refine aB ?_) | (refine bJ rfl rfl ?_; refine fR (cs := Unp.cs x y) cQ rfl (by rw [UnpL.len]; rfl) (fun b9 => ?_); refine aB ?_) | (refine bJ rfl rfl ?_; refine dF 3 0 (news := Unp.cs x y) rfl rfl rfl rfl cQ (by rw [UnpL.len]; rfl) (UnpL.one x y) aO aO (fun v' => ?_); refine aB ?_; refine cE ?_; refine gY 3 rfl (fun A9 c9 hv9 => ?_); subst hv9) | (apply aA) | (apply aH) | (apply aD) | (apply bU) | (apply aP; exact rfl; ((refine aL (i := 3) rfl rfl rfl ?_)); refine aB ?_) | (apply aU; exact rfl; ((refine bM rfl rfl aO aO ?_)); refine aB ?_) | (apply bE; exact rfl; ((refine aN (i := 4) rfl cW rfl dT dB eK ?_)); refine aB ?_; refine cE ?_) | (refine aE rfl rfl ?_; ((first | refine aG ?_ | refine aY ?_ | refine aC rfl ?_)); refine aB ?_))
      exact cJ k' (.blk br (iA A c xs a2' b2' o2') 105 :: .row (.slice A9 (i + 1) c9) 147 7 (i + 1) (cs ++ Unp.cs x y) :: .blk bt [.int .i64 z1, .int .i64 z2, .int .i64 z3, .int .i64 z4, .int .i64 z5, .int .i64 z6, .bool z7, .slice A7 n7 c7, .slice A8 n8 c8, .slice A11 x11.length c11, .slice A9 (i + 1) c9, .slice none 0 0, .slice none 0 0, .slice none 0 0, .slice none 0 0, .int .i64 0] 32 :: .blk bz [.int .i64 0, .int .i64 0, .int .i64 0, .int .i64 0, .int .i64 0, .int .i64 0, .bool false, .slice none 0 0, .slice none 0 0, .slice none 0 0, .slice none 0 0, .slice none 0 0, .slice none 0 0, .slice none 0 0, .slice none 0 0, .int .i64 0] 32 :: H) (Cx (cs ++ Unp.cs x y) (l ++ [x]) :: (Sl (.slice A11 x11.length c11) x11 :: R)) aO eS ⟨i + 1, a2', o2', b2', A9, c9, cs ++ Unp.cs x y, l ++ [x], by omega, rfl, (fun _ h => List.mem_cons_of_mem _ h), List.mem_cons_self, rfl, by omega, h4', by simp [hli], hlp.step hd⟩ (fun w hs => (hs.learn (Cx (cs ++ Unp.cs x y) (l ++ [x])) (fun s hR => eZ (hR (Cx cs l) (List.mem_append_right _ hcx)) (Unp.re hok (fun p hp => hR p (List.mem_append_left _ hp))))).weaken (.cons _ (.cons _ (List.Sublist.refl _))) (bT List.mem_cons_self (fun p hp => List.mem_cons_of_mem _ (List.mem_append_right _ (hR2 p hp)))))
  rintro j12 H12 R12 ⟨a12, o12, b12, A12, c12, x12, hH12, hR12, h12, le12, hle12, ok12⟩
  subst hH12 hR12
  refine dD (by simp only [eF, List.foldl_cons, List.foldl_nil, List.set_cons_succ, List.set_cons_zero]; rfl) ?_
  repeat' (first | (apply aF) | (apply aA) | (refine aE rfl rfl ?_; ((refine aG ?_)); refine aB ?_))
  refine lK rfl rfl hx hle12 aX (fun n13 a13' b13' o13' ho13 le13' hz13 hp13 hle13' => ?_)
  refine aB ?_
  repeat' ((refine aE rfl rfl ?_; ((refine aY ?_)); refine aB ?_))
  apply aH; apply aD
  refine kL [10, 11, 64, 65, 66, 67, 68, 69, 70, 71, 72, 73, 74, 75, 76, 77, 78, 79, 80, 81, 82, 83] (fun j H' R' => ∃ (a' o' : Nat) (b' : Bool) (A' : Option Addr) (c' : Nat) (l : List pR), H' = .blk br (iA A c xs a' b' o') 105 :: .blk bt [.int .i64 z1, .int .i64 z2, .int .i64 z3, .int .i64 z4, .int .i64 z5, .int .i64 z6, .bool z7, .slice A7 n7 c7, .slice A8 n8 c8, .slice A11 x11.length c11, .slice A12 x12.length c12, (.slice A' l.length c'), .slice none 0 0, .slice none 0 0, .slice none 0 0, .int .i64 0] 32 :: .blk bz [.int .i64 0, .int .i64 0, .int .i64 0, .int .i64 0, .int .i64 0, .int .i64 0, .bool false, .slice none 0 0, .slice none 0 0, .slice none 0 0, .slice none 0 0, .slice none 0 0, .slice none 0 0, .slice none 0 0, .slice none 0 0, .int .i64 0] 32 :: H ∧ R' = Sl (.slice A' l.length c') l :: Sl (.slice A12 x12.length c12) x12 :: Sl (.slice A11 x11.length c11) x11 :: R ∧ Out xs (dY xs (zV xs)) ⟨a12, b12, o12⟩ l ⟨a', b', o'⟩ ∧ a12  ≤ a' ∧ a' ≤ xs.length ∧ (l.length ≤ c' ∧ c' ≤ eO)) ?_ ?_
  · skip
    repeat' (first | (apply aF) | (apply aA) | (apply aV) | (apply aH) | (apply aD) | (refine aE rfl rfl ?_; ((refine aY ?_)); refine aB ?_))
    refine eJ (.blk br (iA A c xs a13' b13' o13') 105 :: .row (.slice none 0 0) 153 7 0 [] :: .blk bt [.int .i64 z1, .int .i64 z2, .int .i64 z3, .int .i64 z4, .int .i64 z5, .int .i64 z6, .bool z7, .slice A7 n7 c7, .slice A8 n8 c8, .slice A11 x11.length c11, .slice A12 x12.length c12, .slice none 0 0, .slice none 0 0, .slice none 0 0, .slice none 0 0, .int .i64 0] 32 :: .blk bz [.int .i64 0, .int .i64 0, .int .i64 0, .int .i64 0, .int .i64 0, .int .i64 0, .bool false, .slice none 0 0, .slice none 0 0, .slice none 0 0, .slice none 0 0, .slice none 0 0, .slice none 0 0, .slice none 0 0, .slice none 0 0, .int .i64 0] 32 :: H) (Cx [] ([] : List pR) :: (Sl (.slice A12 x12.length c12) x12 :: Sl (.slice A11 x11.length c11) x11 :: R)) (fun w hs => ((hs.nilrow 153 7).perm (List.Perm.swap _ _ _)).learn (Cx [] ([] : List pR)) (fun s _ => gN s)) ?_
    refine cM [10, 11, 64, 65, 66, 67, 68, 69, 70, 71, 72, 73, 74, 75, 76, 77, 78, 79, 80, 81, 82, 83] (fun k j H2 R2 => ∃ (i a' o' : Nat) (b' : Bool) (A0 : Option Addr) (c0 : Nat) (cs : List Value) (l : List pR), i + k = n13 ∧ j 10 = .int .i64 (i : Int) ∧ (∀ p ∈ (Sl (.slice A12 x12.length c12) x12 :: Sl (.slice A11 x11.length c11) x11 :: R), p ∈ R2) ∧ Cx cs l ∈ R2 ∧ H2 = .blk br (iA A c xs a' b' o') 105 :: .row (.slice A0 i c0) 153 7 i cs :: .blk bt [.int .i64 z1, .int .i64 z2, .int .i64 z3, .int .i64 z4, .int .i64 z5, .int .i64 z6, .bool z7, .slice A7 n7 c7, .slice A8 n8 c8, .slice A11 x11.length c11, .slice A12 x12.length c12, .slice A0 i c0, .slice none 0 0, .slice none 0 0, .slice none 0 0, .int .i64 0] 32 :: .blk bz [.int .i64 0, .int .i64 0, .int .i64 0, .int .i64 0, .int .i64 0, .int .i64 0, .bool false, .slice none 0 0, .slice none 0 0, .slice none 0 0, .slice none 0 0, .slice none 0 0, .slice none 0 0, .slice none 0 0, .slice none 0 0, .int .i64 0] 32 :: H ∧ a13' ≤ a' ∧ a' ≤ xs.length ∧ l.length = i ∧ Lp (zV xs) n13 a13' b13' o13' k l a' b' o') n13 eS ⟨0, a13', o13', b13', none, 0, [], [], by omega, rfl, (fun _ h => List.mem_cons_of_mem _ h), List.mem_cons_self, rfl, Nat.le_refl _, by omega, rfl, Lp.start _ _ _ _ _⟩ ?_
    rintro k j' H2 R2 ⟨i, a', o', b', A0, c0, cs, l, hik, hji, hR2, hcx, hH2, haa, ha', hli, hlp⟩
    subst hH2
    have hmx := hR2 _ (show Sl (.slice A xs.length c) xs ∈ _ from aX)
    refine dD (by simp only [eF, List.foldl_cons, List.foldl_nil, List.set_cons_succ, List.set_cons_zero, hji]; rfl) ?_
    rcases Nat.lt_or_ge i n13 with hlt | hge
    rotate_left
    · obtain rfl : k = 0 := by omega
      have hdone := Lp.done ho13 hlp (.inr rfl) haa ha'
      repeat' (first | (apply aF) | (apply aA) | (apply cG) | (apply aJ; exact rfl) | (apply aH) | (apply aD) | (apply aW) | (apply aS) | (apply aU; exact rfl; ((refine bQ rfl rfl (fun h => ?_) (fun h => ?_))) <;> (first | (exfalso; omega) | refine aB ?_)) | (refine aE rfl rfl ?_; ((first | refine aG ?_ | refine cH rfl eR ?_)); refine aB ?_) | (refine cX rfl ?_; refine aB ?_))
      subst hli
      refine eH 1 rfl rfl cQ hcx (fun A' c' hv => ?_)
      cases hv
      refine fL (fun w hs => dN hs List.mem_cons_self) (fun hb => ?_)
      exact gJ _ (Sl (.slice A0 l.length c0) l :: Sl (.slice A12 x12.length c12) x12 :: Sl (.slice A11 x11.length c11) x11 :: R) eS ⟨a', o', _, A0, c0, l, rfl, rfl, hdone, by omega, ha', hb⟩ (fun w hs => hs.weaken (List.Sublist.refl _) (bT List.mem_cons_self (fun p hp => List.mem_cons_of_mem _ (hR2 p hp))))
    cases b' with
    | true =>
      have hdone := Lp.done ho13 hlp (.inl rfl) haa ha'
      repeat' (first | (apply aF) | (apply aA) | (apply cG) | (apply aJ; exact rfl) | (apply aH) | (apply aD) | (apply aW) | (apply aS) | (apply aP; exact rfl; ((refine aL (i := 0) rfl rfl rfl ?_)); refine aB ?_) | (apply aU; exact rfl; ((refine bQ rfl rfl (fun h => ?_) (fun h => ?_))) <;> (first | (exfalso; omega) | refine aB ?_)) | (refine aE rfl rfl ?_; ((first | refine aG ?_ | refine bX rfl eR ?_ | refine bA rfl ?_ | refine aC rfl ?_ | refine dJ rfl ?_)); refine aB ?_))
      subst hli
      refine eH 1 rfl rfl cQ hcx (fun A' c' hv => ?_)
      cases hv
      refine fL (fun w hs => dN hs List.mem_cons_self) (fun hb => ?_)
      exact gJ _ (Sl (.slice A0 l.length c0) l :: Sl (.slice A12 x12.length c12) x12 :: Sl (.slice A11 x11.length c11) x11 :: R) eS ⟨a', o', _, A0, c0, l, rfl, rfl, hdone, by omega, ha', hb⟩ (fun w hs => hs.weaken (List.Sublist.refl _) (bT List.mem_cons_self (fun p hp => List.mem_cons_of_mem _ (hR2 p hp))))
    | false =>
      obtain ⟨k', rfl⟩ : ∃ k', k = k' + 1 := ⟨k - 1, by omega⟩
      have hb1 := (hlp.ok rfl).1
      repeat' (first | (apply aF) | (apply aA) | (apply aV) | (apply bF) | (apply aK; exact rfl) | (apply aH) | (apply aD) | (apply aP; exact rfl; ((refine aL (i := 0) rfl rfl rfl ?_)); refine aB ?_) | (apply aU; exact rfl; ((refine bQ rfl rfl (fun h => ?_) (fun h => ?_))) <;> (first | (exfalso; omega) | refine aB ?_)) | (refine aE rfl rfl ?_; ((first | refine aG ?_ | refine bX rfl eR ?_ | refine bA rfl ?_ | refine aC rfl ?_ | refine dJ rfl ?_)); refine aB ?_))
      refine qR rfl rfl ((scope_f br A c xs hx).g (Nat.zero_le _)) aO ha' hmx (fun x a2' b2' o2' y hd h3' h4' hok => ?_)
      refine aB ?_
      repeat' ((refine bJ rfl rfl ?_; ((refine bL cW (fun b => ?_))); refine aB ?_))
      refine bJ rfl rfl ?_
      refine aN (i := 0) (vs := Unp.cs x y) rfl rfl rfl (UnpL.len x y) (show 0 + 7 ≤ 7 by omega) (UnpL.one x y) ?_
      rw [eI (by rw [UnpL.len]; rfl)]
      refine aB ?_
      refine cE ?_
      repeat' (first | (refine aP rfl ?_; refine aL (i := 0) rfl rfl (cU (by rw [UnpL.len]; rfl)) ?_; refine aB ?_) | (refine bJ rfl rfl ?_; refine fR (cs := Unp.cs x y) cQ rfl (by rw [UnpL.len]; rfl) (fun b9 => ?_); refine aB ?_) | (refine bJ rfl rfl ?_; refine dF 3 0 (news := Unp.cs x y) rfl rfl rfl rfl cQ (by rw [UnpL.len]; rfl) (UnpL.one x y) aO aO (fun v' => ?_); refine aB ?_; refine cE ?_; refine gY 3 rfl (fun A9 c9 hv9 => ?_); subst hv9) | (apply aA) | (apply aH) | (apply aD) | (apply bU) | (apply aP; exact rfl; ((refine aL (i := 3) rfl rfl rfl ?_)); refine aB ?_) | (apply aU; exact rfl; ((refine bM rfl rfl aO aO ?_)); refine aB ?_) | (apply bE; exact rfl; ((refine aN (i := 4) rfl cW rfl dT dB eK ?_)); refine aB ?_; refine cE ?_) | (refine aE rfl rfl ?_; ((first | refine aG ?_ | refine aY ?_ | refine aC rfl ?_)); refine aB ?_))
      exact cJ k' (.blk br (iA A c xs a2' b2' o2') 105 :: .row (.slice A9 (i + 1) c9) 153 7 (i + 1) (cs ++ Unp.cs x y) :: .blk bt [.int .i64 z1, .int .i64 z2, .int .i64 z3, .int .i64 z4, .int .i64 z5, .int .i64 z6, .bool z7, .slice A7 n7 c7, .slice A8 n8 c8, .slice A11 x11.length c11, .slice A12 x12.length c12, .slice A9 (i + 1) c9, .slice none 0 0, .slice none 0 0, .slice none 0 0, .int .i64 0] 32 :: .blk bz [.int .i64 0, .int .i64 0, .int .i64 0, .int .i64 0, .int .i64 0, .int .i64 0, .bool false, .slice none 0 0, .slice none 0 0, .slice none 0 0, .slice none 0 0, .slice none 0 0, .slice none 0 0, .slice none 0 0, .slice none 0 0, .int .i64 0] 32 :: H) (Cx (cs ++ Unp.cs x y) (l ++ [x]) :: (Sl (.slice A12 x12.length c12) x12 :: Sl (.slice A11 x11.length c11) x11 :: R)) aO eS ⟨i + 1, a2', o2', b2', A9, c9, cs ++ Unp.cs x y, l ++ [x], by omega, rfl, (fun _ h => List.mem_cons_of_mem _ h), List.mem_cons_self, rfl, by omega, h4', by simp [hli], hlp.step hd⟩ (fun w hs => (hs.learn (Cx (cs ++ Unp.cs x y) (l ++ [x])) (fun s hR => eZ (hR (Cx cs l) (List.mem_append_right _ hcx)) (Unp.re hok (fun p hp => hR p (List.mem_append_left _ hp))))).weaken (.cons _ (.cons _ (List.Sublist.refl _))) (bT List.mem_cons_self (fun p hp => List.mem_cons_of_mem _ (List.mem_append_right _ (hR2 p hp)))))
  rintro j13 H13 R13 ⟨a13, o13, b13, A13, c13, x13, hH13, hR13, h13, le13, hle13, ok13⟩
  subst hH13 hR13
  refine dD (by simp only [eF, List.foldl_cons, List.foldl_nil, List.set_cons_succ, List.set_cons_zero]; rfl) ?_
  repeat' (first | (apply aF) | (apply aA) | (refine aE rfl rfl ?_; ((refine aG ?_)); refine aB ?_))
  refine lK rfl rfl hx hle13 aX (fun n14 a14' b14' o14' ho14 le14' hz14 hp14 hle14' => ?_)
  refine aB ?_
  repeat' ((refine aE rfl rfl ?_; ((refine aY ?_)); refine aB ?_))
  apply aH; apply aD
  refine kL [12, 13, 86, 87, 88, 89, 90, 91, 92, 93, 94, 95, 96, 97, 98, 99, 100, 101, 102, 103, 104, 105, 106, 107] (fun j H' R' => ∃ (a' o' : Nat) (b' : Bool) (A' : Option Addr) (c' : Nat) (l : List mU), H' = .blk br (iA A c xs a' b' o') 105 :: .blk bt [.int .i64 z1, .int .i64 z2, .int .i64 z3, .int .i64 z4, .int .i64 z5, .int .i64 z6, .bool z7, .slice A7 n7 c7, .slice A8 n8 c8, .slice A11 x11.length c11, .slice A12 x12.length c12, .slice A13 x13.length c13, (.slice A' l.length c'), .slice none 0 0, .slice none 0 0, .int .i64 0] 32 :: .blk bz [.int .i64 0, .int .i64 0, .int .i64 0, .int .i64 0, .int .i64 0, .int .i64 0, .bool false, .slice none 0 0, .slice none 0 0, .slice none 0 0, .slice none 0 0, .slice none 0 0, .slice none 0 0, .slice none 0 0, .slice none 0 0, .int .i64 0] 32 :: H ∧ R' = Sl (.slice A' l.length c') l :: Sl (.slice A13 x13.length c13) x13 :: Sl (.slice A12 x12.length c12) x12 :: Sl (.slice A11 x11.length c11) x11 :: R ∧ Out xs (dY xs (vaD xs)) ⟨a13, b13, o13⟩ l ⟨a', b', o'⟩ ∧ a13  ≤ a' ∧ a' ≤ xs.length ∧ (l.length ≤ c' ∧ c' ≤ eO)) ?_ ?_
  · skip
    repeat' (first | (apply aF) | (apply aA) | (apply aV) | (apply aH) | (apply aD) | (refine aE rfl rfl ?_; ((refine aY ?_)); refine aB ?_))
    refine eJ (.blk br (iA A c xs a14' b14' o14') 105 :: .row (.slice none 0 0) 162 8 0 [] :: .blk bt [.int .i64 z1, .int .i64 z2, .int .i64 z3, .int .i64 z4, .int .i64 z5, .int .i64 z6, .bool z7, .slice A7 n7 c7, .slice A8 n8 c8, .slice A11 x11.length c11, .slice A12 x12.length c12, .slice A13 x13.length c13, .slice none 0 0, .slice none 0 0, .slice none 0 0, .int .i64 0] 32 :: .blk bz [.int .i64 0, .int .i64 0, .int .i64 0, .int .i64 0, .int .i64 0, .int .i64 0, .bool false, .slice none 0 0, .slice none 0 0, .slice none 0 0, .slice none 0 0, .slice none 0 0, .slice none 0 0, .slice none 0 0, .slice none 0 0, .int .i64 0] 32 :: H) (Cx [] ([] : List mU) :: (Sl (.slice A13 x13.length c13) x13 :: Sl (.slice A12 x12.length c12) x12 :: Sl (.slice A11 x11.length c11) x11 :: R)) (fun w hs => ((hs.nilrow 162 8).perm (List.Perm.swap _ _ _)).learn (Cx [] ([] : List mU)) (fun s _ => gN s)) ?_
    refine cM [12, 13, 86, 87, 88, 89, 90, 91, 92, 93, 94, 95, 96, 97, 98, 99, 100, 101, 102, 103, 104, 105, 106, 107] (fun k j H2 R2 => ∃ (i a' o' : Nat) (b' : Bool) (A0 : Option Addr) (c0 : Nat) (cs : List Value) (l : List mU), i + k = n14 ∧ j 12 = .int .i64 (i : Int) ∧ (∀ p ∈ (Sl (.slice A13 x13.length c13) x13 :: Sl (.slice A12 x12.length c12) x12 :: Sl (.slice A11 x11.length c11) x11 :: R), p ∈ R2) ∧ Cx cs l ∈ R2 ∧ H2 = .blk br (iA A c xs a' b' o') 105 :: .row (.slice A0 i c0) 162 8 i cs :: .blk bt [.int .i64 z1, .int .i64 z2, .int .i64 z3, .int .i64 z4, .int .i64 z5, .int .i64 z6, .bool z7, .slice A7 n7 c7, .slice A8 n8 c8, .slice A11 x11.length c11, .slice A12 x12.length c12, .slice A13 x13.length c13, .slice A0 i c0, .slice none 0 0, .slice none 0 0, .int .i64 0] 32 :: .blk bz [.int .i64 0, .int .i64 0, .int .i64 0, .int .i64 0, .int .i64 0, .int .i64 0, .bool false, .slice none 0 0, .slice none 0 0, .slice none 0 0, .slice none 0 0, .slice none 0 0, .slice none 0 0, .slice none 0 0, .slice none 0 0, .int .i64 0] 32 :: H ∧ a14' ≤ a' ∧ a' ≤ xs.length ∧ l.length = i ∧ Lp (vaD xs) n14 a14' b14' o14' k l a' b' o') n14 eS ⟨0, a14', o14', b14', none, 0, [], [], by omega, rfl, (fun _ h => List.mem_cons_of_mem _ h), List.mem_cons_self, rfl, Nat.le_refl _, by omega, rfl, Lp.start _ _ _ _ _⟩ ?_
    rintro k j' H2 R2 ⟨i, a', o', b', A0, c0, cs, l, hik, hji, hR2, hcx, hH2, haa, ha', hli, hlp⟩
    subst hH2
    have hmx := hR2 _ (show Sl (.slice A xs.length c) xs ∈ _ from aX)
    refine dD (by simp only [eF, List.foldl_cons, List.foldl_nil, List.set_cons_succ, List.set_cons_zero, hji]; rfl) ?_
    rcases Nat.lt_or_ge i n14 with hlt | hge
    rotate_left
    · obtain rfl : k = 0 := by omega
      have hdone := Lp.done ho14 hlp (.inr rfl) haa ha'
      repeat' (first | (apply aF) | (apply aA) | (apply cG) | (apply aJ; exact rfl) | (apply aH) | (apply aD) | (apply aW) | (apply aS) | (apply aU; exact rfl; ((refine bQ rfl rfl (fun h => ?_) (fun h => ?_))) <;> (first | (exfalso; omega) | refine aB ?_)) | (refine aE rfl rfl ?_; ((first | refine aG ?_ | refine cH rfl eR ?_)); refine aB ?_) | (refine cX rfl ?_; refine aB ?_))
      subst hli
      refine eH 1 rfl rfl cQ hcx (fun A' c' hv => ?_)
      cases hv
      refine fL (fun w hs => dN hs List.mem_cons_self) (fun hb => ?_)
      exact gJ _ (Sl (.slice A0 l.length c0) l :: Sl (.slice A13 x13.length c13) x13 :: Sl (.slice A12 x12.length c12) x12 :: Sl (.slice A11 x11.length c11) x11 :: R) eS ⟨a', o', _, A0, c0, l, rfl, rfl, hdone, by omega, ha', hb⟩ (fun w hs => hs.weaken (List.Sublist.refl _) (bT List.mem_cons_self (fun p hp => List.mem_cons_of_mem _ (hR2 p hp))))
    cases b' with
    | true =>
      have hdone := Lp.done ho14 hlp (.inl rfl) haa ha'
      repeat' (first | (apply aF) | (apply aA) | (apply cG) | (apply aJ; exact rfl) | (apply aH) | (apply aD) | (apply aW) | (apply aS) | (apply aP; exact rfl; ((refine aL (i := 0) rfl rfl rfl ?_)); refine aB ?_) | (apply aU; exact rfl; ((refine bQ rfl rfl (fun h => ?_) (fun h => ?_))) <;> (first | (exfalso; omega) | refine aB ?_)) | (refine aE rfl rfl ?_; ((first | refine aG ?_ | refine bX rfl eR ?_ | refine bA rfl ?_ | refine aC rfl ?_ | refine dJ rfl ?_)); refine aB ?_))
      subst hli
      refine eH 1 rfl rfl cQ hcx (fun A' c' hv => ?_)
      cases hv
      refine fL (fun w hs => dN hs List.mem_cons_self) (fun hb => ?_)
      exact gJ _ (Sl (.slice A0 l.length c0) l :: Sl (.slice A13 x13.length c13) x13 :: Sl (.slice A12 x12.length c12) x12 :: Sl (.slice A11 x11.length c11) x11 :: R) eS ⟨a', o', _, A0, c0, l, rfl, rfl, hdone, by omega, ha', hb⟩ (fun w hs => hs.weaken (List.Sublist.refl _) (bT List.mem_cons_self (fun p hp => List.mem_cons_of_mem _ (hR2 p hp))))
    | false =>
      obtain ⟨k', rfl⟩ : ∃ k', k = k' + 1 := ⟨k - 1, by omega⟩
      have hb1 := (hlp.ok rfl).1
      repeat' (first | (apply aF) | (apply aA) | (apply aV) | (apply bF) | (apply aK; exact rfl) | (apply aH) | (apply aD) | (apply aP; exact rfl; ((refine aL (i := 0) rfl rfl rfl ?_)); refine aB ?_) | (apply aU; exact rfl; ((refine bQ rfl rfl (fun h => ?_) (fun h => ?_))) <;> (first | (exfalso; omega) | refine aB ?_)) | (refine aE rfl rfl ?_; ((first | refine aG ?_ | refine bX rfl eR ?_ | refine bA rfl ?_ | refine aC rfl ?_ | refine dJ rfl ?_)); refine aB ?_))
      refine qR rfl rfl ((val_f br A c xs hx).g (Nat.zero_le _)) aO ha' hmx (fun x a2' b2' o2' y hd h3' h4' hok => ?_)
      refine aB ?_
      repeat' ((refine bJ rfl rfl ?_; ((refine bL cW (fun b => ?_))); refine aB ?_))
      refine bJ rfl rfl ?_
      refine aN (i := 0) (vs := Unp.cs x y) rfl rfl rfl (UnpL.len x y) (show 0 + 8 ≤ 8 by omega) (UnpL.one x y) ?_
      rw [eI (by rw [UnpL.len]; rfl)]
      refine aB ?_
      refine cE ?_
      repeat' (first | (refine aP rfl ?_; refine aL (i := 0) rfl rfl (cU (by rw [UnpL.len]; rfl)) ?_; refine aB ?_) | (refine bJ rfl rfl ?_; refine fR (cs := Unp.cs x y) cQ rfl (by rw [UnpL.len]; rfl) (fun b9 => ?_); refine aB ?_) | (refine bJ rfl rfl ?_; refine dF 3 0 (news := Unp.cs x y) rfl rfl rfl rfl cQ (by rw [UnpL.len]; rfl) (UnpL.one x y) aO aO (fun v' => ?_); refine aB ?_; refine cE ?_; refine gY 3 rfl (fun A9 c9 hv9 => ?_); subst hv9) | (apply aA) | (apply aH) | (apply aD) | (apply bU) | (apply aP; exact rfl; ((refine aL (i := 3) rfl rfl rfl ?_)); refine aB ?_) | (apply aU; exact rfl; ((refine bM rfl rfl aO aO ?_)); refine aB ?_) | (apply bE; exact rfl; ((refine aN (i := 4) rfl cW rfl dT dB eK ?_)); refine aB ?_; refine cE ?_) | (refine aE rfl rfl ?_; ((first | refine aG ?_ | refine aY ?_ | refine aC rfl ?_)); refine aB ?_))
      exact cJ k' (.blk br (iA A c xs a2' b2' o2') 105 :: .row (.slice A9 (i + 1) c9) 162 8 (i + 1) (cs ++ Unp.cs x y) :: .blk bt [.int .i64 z1, .int .i64 z2, .int .i64 z3, .int .i64 z4, .int .i64 z5, .int .i64 z6, .bool z7, .slice A7 n7 c7, .slice A8 n8 c8, .slice A11 x11.length c11, .slice A12 x12.length c12, .slice A13 x13.length c13, .slice A9 (i + 1) c9, .slice none 0 0, .slice none 0 0, .int .i64 0] 32 :: .blk bz [.int .i64 0, .int .i64 0, .int .i64 0, .int .i64 0, .int .i64 0, .int .i64 0, .bool false, .slice none 0 0, .slice none 0 0, .slice none 0 0, .slice none 0 0, .slice none 0 0, .slice none 0 0, .slice none 0 0, .slice none 0 0, .int .i64 0] 32 :: H) (Cx (cs ++ Unp.cs x y) (l ++ [x]) :: (Sl (.slice A13 x13.length c13) x13 :: Sl (.slice A12 x12.length c12) x12 :: Sl (.slice A11 x11.length c11) x11 :: R)) aO eS ⟨i + 1, a2', o2', b2', A9, c9, cs ++ Unp.cs x y, l ++ [x], by omega, rfl, (fun _ h => List.mem_cons_of_mem _ h), List.mem_cons_self, rfl, by omega, h4', by simp [hli], hlp.step hd⟩ (fun w hs => (hs.learn (Cx (cs ++ Unp.cs x y) (l ++ [x])) (fun s hR => eZ (hR (Cx cs l) (List.mem_append_right _ hcx)) (Unp.re hok (fun p hp => hR p (List.mem_append_left _ hp))))).weaken (.cons _ (.cons _ (List.Sublist.refl _))) (bT List.mem_cons_self (fun p hp => List.mem_cons_of_mem _ (List.mem_append_right _ (hR2 p hp)))))
  rintro j14 H14 R14 ⟨a14, o14, b14, A14, c14, x14, hH14, hR14, h14, le14, hle14, ok14⟩
  subst hH14 hR14
  refine dD (by simp only [eF, List.foldl_cons, List.foldl_nil, List.set_cons_succ, List.set_cons_zero]; rfl) ?_
  repeat' (first | (apply aF) | (apply aA) | (refine aE rfl rfl ?_; ((refine aG ?_)); refine aB ?_))
  refine lK rfl rfl hx hle14 aX (fun n15 a15' b15' o15' ho15 le15' hz15 hp15 hle15' => ?_)
  refine aB ?_
  repeat' ((refine aE rfl rfl ?_; ((refine aY ?_)); refine aB ?_))
  apply aH; apply aD
  refine kL [14, 15, 110, 111, 112, 113, 114, 115, 116, 117, 118, 119, 120, 121, 122, 123, 124, 125, 126, 127, 128, 129, 130, 131, 132, 133] (fun j H' R' => ∃ (a' o' : Nat) (b' : Bool) (A' : Option Addr) (c' : Nat) (l : List nJ), H' = .blk br (iA A c xs a' b' o') 105 :: .blk bt [.int .i64 z1, .int .i64 z2, .int .i64 z3, .int .i64 z4, .int .i64 z5, .int .i64 z6, .bool z7, .slice A7 n7 c7, .slice A8 n8 c8, .slice A11 x11.length c11, .slice A12 x12.length c12, .slice A13 x13.length c13, .slice A14 x14.length c14, (.slice A' l.length c'), .slice none 0 0, .int .i64 0] 32 :: .blk bz [.int .i64 0, .int .i64 0, .int .i64 0, .int .i64 0, .int .i64 0, .int .i64 0, .bool false, .slice none 0 0, .slice none 0 0, .slice none 0 0, .slice none 0 0, .slice none 0 0, .slice none 0 0, .slice none 0 0, .slice none 0 0, .int .i64 0] 32 :: H ∧ R' = Sl (.slice A' l.length c') l :: Sl (.slice A14 x14.length c14) x14 :: Sl (.slice A13 x13.length c13) x13 :: Sl (.slice A12 x12.length c12) x12 :: Sl (.slice A11 x11.length c11) x11 :: R ∧ Out xs (dY xs (trD xs)) ⟨a14, b14, o14⟩ l ⟨a', b', o'⟩ ∧ a14  ≤ a' ∧ a' ≤ xs.length ∧ (l.length ≤ c' ∧ c' ≤ eO)) ?_ ?_
  · skip
    repeat' (first | (apply aF) | (apply aA) | (apply aV) | (apply aH) | (apply aD) | (refine aE rfl rfl ?_; ((refine aY ?_)); refine aB ?_))
    refine eJ (.blk br (iA A c xs a15' b15' o15') 105 :: .row (.slice none 0 0) 166 9 0 [] :: .blk bt [.int .i64 z1, .int .i64 z2, .int .i64 z3, .int .i64 z4, .int .i64 z5, .int .i64 z6, .bool z7, .slice A7 n7 c7, .slice A8 n8 c8, .slice A11 x11.length c11, .slice A12 x12.length c12, .slice A13 x13.length c13, .slice A14 x14.length c14, .slice none 0 0, .slice none 0 0, .int .i64 0] 32 :: .blk bz [.int .i64 0, .int .i64 0, .int .i64 0, .int .i64 0, .int .i64 0, .int .i64 0, .bool false, .slice none 0 0, .slice none 0 0, .slice none 0 0, .slice none 0 0, .slice none 0 0, .slice none 0 0, .slice none 0 0, .slice none 0 0, .int .i64 0] 32 :: H) (Cx [] ([] : List nJ) :: (Sl (.slice A14 x14.length c14) x14 :: Sl (.slice A13 x13.length c13) x13 :: Sl (.slice A12 x12.length c12) x12 :: Sl (.slice A11 x11.length c11) x11 :: R)) (fun w hs => ((hs.nilrow 166 9).perm (List.Perm.swap _ _ _)).learn (Cx [] ([] : List nJ)) (fun s _ => gN s)) ?_
    refine cM [14, 15, 110, 111, 112, 113, 114, 115, 116, 117, 118, 119, 120, 121, 122, 123, 124, 125, 126, 127, 128, 129, 130, 131, 132, 133] (fun k j H2 R2 => ∃ (i a' o' : Nat) (b' : Bool) (A0 : Option Addr) (c0 : Nat) (cs : List Value) (l : List nJ), i + k = n15 ∧ j 14 = .int .i64 (i : Int) ∧ (∀ p ∈ (Sl (.slice A14 x14.length c14) x14 :: Sl (.slice A13 x13.length c13) x13 :: Sl (.slice A12 x12.length c12) x12 :: Sl (.slice A11 x11.length c11) x11 :: R), p ∈ R2) ∧ Cx cs l ∈ R2 ∧ H2 = .blk br (iA A c xs a' b' o') 105 :: .row (.slice A0 i c0) 166 9 i cs :: .blk bt [.int .i64 z1, .int .i64 z2, .int .i64 z3, .int .i64 z4, .int .i64 z5, .int .i64 z6, .bool z7, .slice A7 n7 c7, .slice A8 n8 c8, .slice A11 x11.length c11, .slice A12 x12.length c12, .slice A13 x13.length c13, .slice A14 x14.length c14, .slice A0 i c0, .slice none 0 0, .int .i64 0] 32 :: .blk bz [.int .i64 0, .int .i64 0, .int .i64 0, .int .i64 0, .int .i64 0, .int .i64 0, .bool false, .slice none 0 0, .slice none 0 0, .slice none 0 0, .slice none 0 0, .slice none 0 0, .slice none 0 0, .slice none 0 0, .slice none 0 0, .int .i64 0] 32 :: H ∧ a15' ≤ a' ∧ a' ≤ xs.length ∧ l.length = i ∧ Lp (trD xs) n15 a15' b15' o15' k l a' b' o') n15 eS ⟨0, a15', o15', b15', none, 0, [], [], by omega, rfl, (fun _ h => List.mem_cons_of_mem _ h), List.mem_cons_self, rfl, Nat.le_refl _, by omega, rfl, Lp.start _ _ _ _ _⟩ ?_
    rintro k j' H2 R2 ⟨i, a', o', b', A0, c0, cs, l, hik, hji, hR2, hcx, hH2, haa, ha', hli, hlp⟩
    subst hH2
    have hmx := hR2 _ (show Sl (.slice A xs.length c) xs ∈ _ from aX)
    refine dD (by simp only [eF, List.foldl_cons, List.foldl_nil, List.set_cons_succ, List.set_cons_zero, hji]; rfl) ?_
    rcases Nat.lt_or_ge i n15 with hlt | hge
    rotate_left
    · obtain rfl : k = 0 := by omega
      have hdone := Lp.done ho15 hlp (.inr rfl) haa ha'
      repeat' (first | (apply aF) | (apply aA) | (apply cG) | (apply aJ; exact rfl) | (apply aH) | (apply aD) | (apply aW) | (apply aS) | (apply aU; exact rfl; ((refine bQ rfl rfl (fun h => ?_) (fun h => ?_))) <;> (first | (exfalso; omega) | refine aB ?_)) | (refine aE rfl rfl ?_; ((first | refine aG ?_ | refine cH rfl eR ?_)); refine aB ?_) | (refine cX rfl ?_; refine aB ?_))
      subst hli
      refine eH 1 rfl rfl cQ hcx (fun A' c' hv => ?_)
      cases hv
      refine fL (fun w hs => dN hs List.mem_cons_self) (fun hb => ?_)
      exact gJ _ (Sl (.slice A0 l.length c0) l :: Sl (.slice A14 x14.length c14) x14 :: Sl (.slice A13 x13.length c13) x13 :: Sl (.slice A12 x12.length c12) x12 :: Sl (.slice A11 x11.length c11) x11 :: R) eS ⟨a', o', _, A0, c0, l, rfl, rfl, hdone, by omega, ha', hb⟩ (fun w hs => hs.weaken (List.Sublist.refl _) (bT List.mem_cons_self (fun p hp => List.mem_cons_of_mem _ (hR2 p hp))))
    cases b' with
    | true =>
      have hdone := Lp.done ho15 hlp (.inl rfl) haa ha'
      repeat' (first | (apply aF) | (apply aA) | (apply cG) | (apply aJ; exact rfl) | (apply aH) | (apply aD) | (apply aW) | (apply aS) | (apply aP; exact rfl; ((refine aL (i := 0) rfl rfl rfl ?_)); refine aB ?_) | (apply aU; exact rfl; ((refine bQ rfl rfl (fun h => ?_) (fun h => ?_))) <;> (first | (exfalso; omega) | refine aB ?_)) | (refine aE rfl rfl ?_; ((first | refine aG ?_ | refine bX rfl eR ?_ | refine bA rfl ?_ | refine aC rfl ?_ | refine dJ rfl ?_)); refine aB ?_))
      subst hli
      refine eH 1 rfl rfl cQ hcx (fun A' c' hv => ?_)
      cases hv
      refine fL (fun w hs => dN hs List.mem_cons_self) (fun hb => ?_)
      exact gJ _ (Sl (.slice A0 l.length c0) l :: Sl (.slice A14 x14.length c14) x14 :: Sl (.slice A13 x13.length c13) x13 :: Sl (.slice A12 x12.length c12) x12 :: Sl (.slice A11 x11.length c11) x11 :: R) eS ⟨a', o', _, A0, c0, l, rfl, rfl, hdone, by omega, ha', hb⟩ (fun w hs => hs.weaken (List.Sublist.refl _) (bT List.mem_cons_self (fun p hp => List.mem_cons_of_mem _ (hR2 p hp))))
    | false =>
      obtain ⟨k', rfl⟩ : ∃ k', k = k' + 1 := ⟨k - 1, by omega⟩
      have hb1 := (hlp.ok rfl).1
      repeat' (first | (apply aF) | (apply aA) | (apply aV) | (apply bF) | (apply aK; exact rfl) | (apply aH) | (apply aD) | (apply aP; exact rfl; ((refine aL (i := 0) rfl rfl rfl ?_)); refine aB ?_) | (apply aU; exact rfl; ((refine bQ rfl rfl (fun h => ?_) (fun h => ?_))) <;> (first | (exfalso; omega) | refine aB ?_)) | (refine aE rfl rfl ?_; ((first | refine aG ?_ | refine bX rfl eR ?_ | refine bA rfl ?_ | refine aC rfl ?_ | refine dJ rfl ?_)); refine aB ?_) | (refine bJ rfl rfl ?_; ((refine bL cW (fun b => ?_))); refine aB ?_))
      refine T_sw ?_
      refine gI rfl rfl (eG br A c xs hx) (fun _ => Nat.zero_le _) ha' hmx (fun q aq bq oq hq leq hleq okq => ?_)
      refine aB ?_
      repeat' (first | (apply aF) | (apply aA) | (apply aH) | (apply aD) | (apply bE; exact rfl; ((refine aN (i := 1) rfl cW rfl dT dB eK ?_)); refine aB ?_; refine cE ?_) | (refine aE rfl rfl ?_; ((first | refine aG ?_ | refine aC rfl ?_)); refine aB ?_))
      refine T_rfva rfl rfl (val_f br A c xs hx) (fun _ => Nat.zero_le _) hleq hmx (fun lv tn tx bo k1 i1 nm x1' a2' b2' o2' At ct Am cm hv' le2' h4' okv => ?_)
      have hd : Out xs (trD xs) ⟨a', false, o'⟩ (q, lv, .mk tn tx, bo, .mk k1 i1 nm x1') ⟨a2', b2', o2'⟩ := hq.pair hv'
      have hok : Unp.ok (α := nJ) (q, lv, .mk tn tx, bo, .mk k1 i1 nm x1') ((), (), (At, ct), (), (Am, cm)) := (show dO q ∧ Unp.ok (α := mU) (lv, .mk tn tx, bo, .mk k1 i1 nm x1') ((), (At, ct), (), (Am, cm)) from ⟨okq, okv⟩)
      refine T_rp (R' := Unp.fs (α := nJ) (q, lv, .mk tn tx, bo, .mk k1 i1 nm x1') ((), (), (At, ct), (), (Am, cm)) ++ R2) rfl ?_
      refine aB ?_
      repeat' (first | (refine bJ rfl rfl ?_; refine dF 3 0 (news := Unp.cs (α := nJ) (q, lv, .mk tn tx, bo, .mk k1 i1 nm x1') ((), (), (At, ct), (), (Am, cm))) rfl rfl rfl rfl cQ (rfl) (UnpL.one (α := nJ) (q, lv, .mk tn tx, bo, .mk k1 i1 nm x1') ((), (), (At, ct), (), (Am, cm))) aO aO (fun v' => ?_); refine aB ?_; refine cE ?_; refine gY 3 rfl (fun A9 c9 hv9 => ?_); subst hv9) | (apply aA) | (apply aH) | (apply aD) | (apply bU) | (apply aP; exact rfl; ((first | refine aL (i := 1) rfl rfl rfl ?_ | refine aL (i := 3) rfl rfl rfl ?_)); refine aB ?_) | (apply aU; exact rfl; ((refine bM rfl rfl aO aO ?_)); refine aB ?_) | (apply bE; exact rfl; ((first | refine aN (i := 1) rfl cW rfl dT dB eK ?_ | refine aN (i := 4) rfl cW rfl dT dB eK ?_)); refine aB ?_; refine cE ?_) | (refine aE rfl rfl ?_; ((first | refine aG ?_ | refine aY ?_ | refine aC rfl ?_)); refine aB ?_) | (refine bJ rfl rfl ?_; ((refine bK cQ fP rfl (fun b => ?_))); refine aB ?_))
      exact cJ k' (.blk br (iA A c xs a2' b2' o2') 105 :: .row (.slice A9 (i + 1) c9) 166 9 (i + 1) (cs ++ Unp.cs (α := nJ) (q, lv, .mk tn tx, bo, .mk k1 i1 nm x1') ((), (), (At, ct), (), (Am, cm))) :: .blk bt [.int .i64 z1, .int .i64 z2, .int .i64 z3, .int .i64 z4, .int .i64 z5, .int .i64 z6, .bool z7, .slice A7 n7 c7, .slice A8 n8 c8, .slice A11 x11.length c11, .slice A12 x12.length c12, .slice A13 x13.length c13, .slice A14 x14.length c14, .slice A9 (i + 1) c9, .slice none 0 0, .int .i64 0] 32 :: .blk bz [.int .i64 0, .int .i64 0, .int .i64 0, .int .i64 0, .int .i64 0, .int .i64 0, .bool false, .slice none 0 0, .slice none 0 0, .slice none 0 0, .slice none 0 0, .slice none 0 0, .slice none 0 0, .slice none 0 0, .slice none 0 0, .int .i64 0] 32 :: H) (Cx (cs ++ Unp.cs (α := nJ) (q, lv, .mk tn tx, bo, .mk k1 i1 nm x1') ((), (), (At, ct), (), (Am, cm))) (l ++ [(q, lv, .mk tn tx, bo, .mk k1 i1 nm x1')]) :: (Sl (.slice A14 x14.length c14) x14 :: Sl (.slice A13 x13.length c13) x13 :: Sl (.slice A12 x12.length c12) x12 :: Sl (.slice A11 x11.length c11) x11 :: R)) aO eS ⟨i + 1, a2', o2', b2', A9, c9, cs ++ Unp.cs (α := nJ) (q, lv, .mk tn tx, bo, .mk k1 i1 nm x1') ((), (), (At, ct), (), (Am, cm)), l ++ [(q, lv, .mk tn tx, bo, .mk k1 i1 nm x1')], by omega, rfl, (fun _ h => List.mem_cons_of_mem _ h), List.mem_cons_self, rfl, by omega, h4', by simp [hli], hlp.step hd⟩ (fun w hs => (hs.learn (Cx (cs ++ Unp.cs (α := nJ) (q, lv, .mk tn tx, bo, .mk k1 i1 nm x1') ((), (), (At, ct), (), (Am, cm))) (l ++ [(q, lv, .mk tn tx, bo, .mk k1 i1 nm x1')])) (fun s hR => eZ (hR (Cx cs l) (List.mem_append_right _ hcx)) (Unp.re hok (fun p hp => hR p (List.mem_append_left _ hp))))).weaken (.cons _ (.cons_cons _ (.cons _ (List.Sublist.refl _)))) (bT List.mem_cons_self (fun p hp => List.mem_cons_of_mem _ (List.mem_append_right _ (hR2 p hp)))))
  rintro j15 H15 R15 ⟨a15, o15, b15, A15, c15, x15, hH15, hR15, h15, le15, hle15, ok15⟩
  subst hH15 hR15
  refine dD (by simp only [eF, List.foldl_cons, List.foldl_nil, List.set_cons_succ, List.set_cons_zero]; rfl) ?_
  repeat' (first | (apply aF) | (apply aA) | (refine aE rfl rfl ?_; ((refine aG ?_)); refine aB ?_))
  refine lK rfl rfl hx hle15 aX (fun n16 a16' b16' o16' ho16 le16' hz16 hp16 hle16' => ?_)
  refine aB ?_
  repeat' ((refine aE rfl rfl ?_; ((refine aY ?_)); refine aB ?_))
  apply aH; apply aD
  refine kL [16, 17, 136, 137, 138, 139, 140, 141, 142, 143, 144, 145, 146, 147, 148, 149, 150, 151, 152, 153, 154, 155] (fun j H' R' => ∃ (a' o' : Nat) (b' : Bool) (A' : Option Addr) (c' : Nat) (l : List pL), H' = .blk br (iA A c xs a' b' o') 105 :: .blk bt [.int .i64 z1, .int .i64 z2, .int .i64 z3, .int .i64 z4, .int .i64 z5, .int .i64 z6, .bool z7, .slice A7 n7 c7, .slice A8 n8 c8, .slice A11 x11.length c11, .slice A12 x12.length c12, .slice A13 x13.length c13, .slice A14 x14.length c14, .slice A15 x15.length c15, (.slice A' l.length c'), .int .i64 0] 32 :: .blk bz [.int .i64 0, .int .i64 0, .int .i64 0, .int .i64 0, .int .i64 0, .int .i64 0, .bool false, .slice none 0 0, .slice none 0 0, .slice none 0 0, .slice none 0 0, .slice none 0 0, .slice none 0 0, .slice none 0 0, .slice none 0 0, .int .i64 0] 32 :: H ∧ R' = Sl (.slice A' l.length c') l :: Sl (.slice A15 x15.length c15) x15 :: Sl (.slice A14 x14.length c14) x14 :: Sl (.slice A13 x13.length c13) x13 :: Sl (.slice A12 x12.length c12) x12 :: Sl (.slice A11 x11.length c11) x11 :: R ∧ Out xs (dY xs (sR xs)) ⟨a15, b15, o15⟩ l ⟨a', b', o'⟩ ∧ a15  ≤ a' ∧ a' ≤ xs.length ∧ (l.length ≤ c' ∧ c' ≤ eO)) ?_ ?_
  · skip
    repeat' (first | (apply aF) | (apply aA) | (apply aV) | (apply aH) | (apply aD) | (refine aE rfl rfl ?_; ((refine aY ?_)); refine aB ?_))
    refine eJ (.blk br (iA A c xs a16' b16' o16') 105 :: .row (.slice none 0 0) 115 18 0 [] :: .blk bt [.int .i64 z1, .int .i64 z2, .int .i64 z3, .int .i64 z4, .int .i64 z5, .int .i64 z6, .bool z7, .slice A7 n7 c7, .slice A8 n8 c8, .slice A11 x11.length c11, .slice A12 x12.length c12, .slice A13 x13.length c13, .slice A14 x14.length c14, .slice A15 x15.length c15, .slice none 0 0, .int .i64 0] 32 :: .blk bz [.int .i64 0, .int .i64 0, .int .i64 0, .int .i64 0, .int .i64 0, .int .i64 0, .bool false, .slice none 0 0, .slice none 0 0, .slice none 0 0, .slice none 0 0, .slice none 0 0, .slice none 0 0, .slice none 0 0, .slice none 0 0, .int .i64 0] 32 :: H) (Cx [] ([] : List pL) :: (Sl (.slice A15 x15.length c15) x15 :: Sl (.slice A14 x14.length c14) x14 :: Sl (.slice A13 x13.length c13) x13 :: Sl (.slice A12 x12.length c12) x12 :: Sl (.slice A11 x11.length c11) x11 :: R)) (fun w hs => ((hs.nilrow 115 18).perm (List.Perm.swap _ _ _)).learn (Cx [] ([] : List pL)) (fun s _ => gN s)) ?_
    refine cM [16, 17, 136, 137, 138, 139, 140, 141, 142, 143, 144, 145, 146, 147, 148, 149, 150, 151, 152, 153, 154, 155] (fun k j H2 R2 => ∃ (i a' o' : Nat) (b' : Bool) (A0 : Option Addr) (c0 : Nat) (cs : List Value) (l : List pL), i + k = n16 ∧ j 16 = .int .i64 (i : Int) ∧ (∀ p ∈ (Sl (.slice A15 x15.length c15) x15 :: Sl (.slice A14 x14.length c14) x14 :: Sl (.slice A13 x13.length c13) x13 :: Sl (.slice A12 x12.length c12) x12 :: Sl (.slice A11 x11.length c11) x11 :: R), p ∈ R2) ∧ Cx cs l ∈ R2 ∧ H2 = .blk br (iA A c xs a' b' o') 105 :: .row (.slice A0 i c0) 115 18 i cs :: .blk bt [.int .i64 z1, .int .i64 z2, .int .i64 z3, .int .i64 z4, .int .i64 z5, .int .i64 z6, .bool z7, .slice A7 n7 c7, .slice A8 n8 c8, .slice A11 x11.length c11, .slice A12 x12.length c12, .slice A13 x13.length c13, .slice A14 x14.length c14, .slice A15 x15.length c15, .slice A0 i c0, .int .i64 0] 32 :: .blk bz [.int .i64 0, .int .i64 0, .int .i64 0, .int .i64 0, .int .i64 0, .int .i64 0, .bool false, .slice none 0 0, .slice none 0 0, .slice none 0 0, .slice none 0 0, .slice none 0 0, .slice none 0 0, .slice none 0 0, .slice none 0 0, .int .i64 0] 32 :: H ∧ a16' ≤ a' ∧ a' ≤ xs.length ∧ l.length = i ∧ Lp (sR xs) n16 a16' b16' o16' k l a' b' o') n16 eS ⟨0, a16', o16', b16', none, 0, [], [], by omega, rfl, (fun _ h => List.mem_cons_of_mem _ h), List.mem_cons_self, rfl, Nat.le_refl _, by omega, rfl, Lp.start _ _ _ _ _⟩ ?_
    rintro k j' H2 R2 ⟨i, a', o', b', A0, c0, cs, l, hik, hji, hR2, hcx, hH2, haa, ha', hli, hlp⟩
    subst hH2
    have hmx := hR2 _ (show Sl (.slice A xs.length c) xs ∈ _ from aX)
    refine dD (by simp only [eF, List.foldl_cons, List.foldl_nil, List.set_cons_succ, List.set_cons_zero, hji]; rfl) ?_
    rcases Nat.lt_or_ge i n16 with hlt | hge
    rotate_left
    · obtain rfl : k = 0 := by omega
      have hdone := Lp.done ho16 hlp (.inr rfl) haa ha'
      repeat' (first | (apply aF) | (apply aA) | (apply cG) | (apply aJ; exact rfl) | (apply aH) | (apply aD) | (apply aW) | (apply aS) | (apply aU; exact rfl; ((refine bQ rfl rfl (fun h => ?_) (fun h => ?_))) <;> (first | (exfalso; omega) | refine aB ?_)) | (refine aE rfl rfl ?_; ((first | refine aG ?_ | refine cH rfl eR ?_)); refine aB ?_) | (refine cX rfl ?_; refine aB ?_))
      subst hli
      refine eH 1 rfl rfl cQ hcx (fun A' c' hv => ?_)
      cases hv
      refine fL (fun w hs => dN hs List.mem_cons_self) (fun hb => ?_)
      exact gJ _ (Sl (.slice A0 l.length c0) l :: Sl (.slice A15 x15.length c15) x15 :: Sl (.slice A14 x14.length c14) x14 :: Sl (.slice A13 x13.length c13) x13 :: Sl (.slice A12 x12.length c12) x12 :: Sl (.slice A11 x11.length c11) x11 :: R) eS ⟨a', o', _, A0, c0, l, rfl, rfl, hdone, by omega, ha', hb⟩ (fun w hs => hs.weaken (List.Sublist.refl _) (bT List.mem_cons_self (fun p hp => List.mem_cons_of_mem _ (hR2 p hp))))
    cases b' with
    | true =>
      have hdone := Lp.done ho16 hlp (.inl rfl) haa ha'
      repeat' (first | (apply aF) | (apply aA) | (apply cG) | (apply aJ; exact rfl) | (apply aH) | (apply aD) | (apply aW) | (apply aS) | (apply aP; exact rfl; ((refine aL (i := 0) rfl rfl rfl ?_)); refine aB ?_) | (apply aU; exact rfl; ((refine bQ rfl rfl (fun h => ?_) (fun h => ?_))) <;> (first | (exfalso; omega) | refine aB ?_)) | (refine aE rfl rfl ?_; ((first | refine aG ?_ | refine bX rfl eR ?_ | refine bA rfl ?_ | refine aC rfl ?_ | refine dJ rfl ?_)); refine aB ?_))
      subst hli
      refine eH 1 rfl rfl cQ hcx (fun A' c' hv => ?_)
      cases hv
      refine fL (fun w hs => dN hs List.mem_cons_self) (fun hb => ?_)
      exact gJ _ (Sl (.slice A0 l.length c0) l :: Sl (.slice A15 x15.length c15) x15 :: Sl (.slice A14 x14.length c14) x14 :: Sl (.slice A13 x13.length c13) x13 :: Sl (.slice A12 x12.length c12) x12 :: Sl (.slice A11 x11.length c11) x11 :: R) eS ⟨a', o', _, A0, c0, l, rfl, rfl, hdone, by omega, ha', hb⟩ (fun w hs => hs.weaken (List.Sublist.refl _) (bT List.mem_cons_self (fun p hp => List.mem_cons_of_mem _ (hR2 p hp))))
    | false =>
      obtain ⟨k', rfl⟩ : ∃ k', k = k' + 1 := ⟨k - 1, by omega⟩
      have hb1 := (hlp.ok rfl).1
      repeat' (first | (apply aF) | (apply aA) | (apply aV) | (apply bF) | (apply aK; exact rfl) | (apply aH) | (apply aD) | (apply aP; exact rfl; ((refine aL (i := 0) rfl rfl rfl ?_)); refine aB ?_) | (apply aU; exact rfl; ((refine bQ rfl rfl (fun h => ?_) (fun h => ?_))) <;> (first | (exfalso; omega) | refine aB ?_)) | (refine aE rfl rfl ?_; ((first | refine aG ?_ | refine bX rfl eR ?_ | refine bA rfl ?_ | refine aC rfl ?_ | refine dJ rfl ?_)); refine aB ?_))
      refine qR rfl rfl ((choice_f br A c xs hx).g (Nat.zero_le _)) aO ha' hmx (fun x a2' b2' o2' y hd h3' h4' hok => ?_)
      refine aB ?_
      repeat' ((refine bJ rfl rfl ?_; ((refine bL cW (fun b => ?_))); refine aB ?_))
      refine bJ rfl rfl ?_
      refine aN (i := 0) (vs := Unp.cs x y) rfl rfl rfl (UnpL.len x y) (show 0 + 18 ≤ 18 by omega) (UnpL.one x y) ?_
      rw [eI (by rw [UnpL.len]; rfl)]
      refine aB ?_
      refine cE ?_
      repeat' (first | (refine aP rfl ?_; refine aL (i := 0) rfl rfl (cU (by rw [UnpL.len]; rfl)) ?_; refine aB ?_) | (refine bJ rfl rfl ?_; refine fR (cs := Unp.cs x y) cQ rfl (by rw [UnpL.len]; rfl) (fun b9 => ?_); refine aB ?_) | (refine bJ rfl rfl ?_; refine dF 3 0 (news := Unp.cs x y) rfl rfl rfl rfl cQ (by rw [UnpL.len]; rfl) (UnpL.one x y) aO aO (fun v' => ?_); refine aB ?_; refine cE ?_; refine gY 3 rfl (fun A9 c9 hv9 => ?_); subst hv9) | (apply aA) | (apply aH) | (apply aD) | (apply bU) | (apply aP; exact rfl; ((refine aL (i := 3) rfl rfl rfl ?_)); refine aB ?_) | (apply aU; exact rfl; ((refine bM rfl rfl aO aO ?_)); refine aB ?_) | (apply bE; exact rfl; ((refine aN (i := 4) rfl cW rfl dT dB eK ?_)); refine aB ?_; refine cE ?_) | (refine aE rfl rfl ?_; ((first | refine aG ?_ | refine aY ?_ | refine aC rfl ?_)); refine aB ?_))
      exact cJ k' (.blk br (iA A c xs a2' b2' o2') 105 :: .row (.slice A9 (i + 1) c9) 115 18 (i + 1) (cs ++ Unp.cs x y) :: .blk bt [.int .i64 z1, .int .i64 z2, .int .i64 z3, .int .i64 z4, .int .i64 z5, .int .i64 z6, .bool z7, .slice A7 n7 c7, .slice A8 n8 c8, .slice A11 x11.length c11, .slice A12 x12.length c12, .slice A13 x13.length c13, .slice A14 x14.length c14, .slice A15 x15.length c15, .slice A9 (i + 1) c9, .int .i64 0] 32 :: .blk bz [.int .i64 0, .int .i64 0, .int .i64 0, .int .i64 0, .int .i64 0, .int .i64 0, .bool false, .slice none 0 0, .slice none 0 0, .slice none 0 0, .slice none 0 0, .slice none 0 0, .slice none 0 0, .slice none 0 0, .slice none 0 0, .int .i64 0] 32 :: H) (Cx (cs ++ Unp.cs x y) (l ++ [x]) :: (Sl (.slice A15 x15.length c15) x15 :: Sl (.slice A14 x14.length c14) x14 :: Sl (.slice A13 x13.length c13) x13 :: Sl (.slice A12 x12.length c12) x12 :: Sl (.slice A11 x11.length c11) x11 :: R)) aO eS ⟨i + 1, a2', o2', b2', A9, c9, cs ++ Unp.cs x y, l ++ [x], by omega, rfl, (fun _ h => List.mem_cons_of_mem _ h), List.mem_cons_self, rfl, by omega, h4', by simp [hli], hlp.step hd⟩ (fun w hs => (hs.learn (Cx (cs ++ Unp.cs x y) (l ++ [x])) (fun s hR => eZ (hR (Cx cs l) (List.mem_append_right _ hcx)) (Unp.re hok (fun p hp => hR p (List.mem_append_left _ hp))))).weaken (.cons _ (.cons _ (List.Sublist.refl _))) (bT List.mem_cons_self (fun p hp => List.mem_cons_of_mem _ (List.mem_append_right _ (hR2 p hp)))))
  rintro j16 H16 R16 ⟨a16, o16, b16, A16, c16, x16, hH16, hR16, h16, le16, hle16, ok16⟩
  subst hH16 hR16
  refine dD (by simp only [eF, List.foldl_cons, List.foldl_nil, List.set_cons_succ, List.set_cons_zero]; rfl) ?_
  repeat' (first | (apply aF) | (apply aA) | (apply bP) | (apply aH) | (apply aD) | (apply aP; exact rfl; ((refine aL (i := 1) rfl rfl rfl ?_)); refine aB ?_) | (apply bE; exact rfl; ((refine aN (i := 2) rfl cW rfl dT dB eK ?_)); refine aB ?_; refine cE ?_))
  refine aZ (.inl rfl) (dP rfl (dC (i := 2) rfl rfl rfl)) (cA (.blk br (iA A c xs a16 b16 o16) 105 :: H) (Sl (.slice A11 x11.length c11) x11 :: Sl (.slice A12 x12.length c12) x12 :: Sl (.slice A13 x13.length c13) x13 :: Sl (.slice A14 x14.length c14) x14 :: Sl (.slice A15 x15.length c15) x15 :: Sl (.slice A16 x16.length c16) x16 :: R) dV ?_)
  exact hk x11 x12 x13 x14 x15 x16 a16 b16 o16 A11 c11 A12 c12 A13 c13 A14 c14 A15 c15 A16 c16 (fun d z s2 h => (h11).pair ((h12).pair ((h13).pair ((h14).pair ((h15).pair ((h16).pair (h))))))) aO hle16 ⟨ok11, ok12, ok13, ok14, ok15, ok16⟩
end Go.Proofs.YtggdljhmbckpmaaGreat
