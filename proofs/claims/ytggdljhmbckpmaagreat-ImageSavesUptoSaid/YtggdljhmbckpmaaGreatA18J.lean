/- Appending what stays to an owned row. The reference of drives: its small functions: walks. The reference of drives: CheckDrive, NewDrive, has, Read: walks. The reference of drives: has, Read: walks. -/
import Derived.Test.YtggdljhmbckpmaaGreatA10J
import Derived.Laws.Small
import Derived.Test.YtggdljhmbckpmaaGreatF7J
import Derived.Test.YtggdljhmbckpmaaGreatF3J
set_option linter.unusedVariables false
set_option linter.unusedSimpArgs false
namespace Go.Proofs.YtggdljhmbckpmaaGreat
open Go Go.RowKit
attribute [local semireducible] T TC En PW GW OW CallsK CallsP Sl Rd Ls At S

section
variable {P : Program} {w0 : World} {E : List Value} {H : List Hp} {R : List MP} {ty : TypeId} {K : Value → List Hp → List MP → Prop}
/-- An empty literal: an owned row. -/
theorem rH {t e : TypeId} {parts : Array (Nat × Operand)} {sz by_ : Nat} {zs : List Value} [h : TyL P t e sz by_ zs] (hp : parts = #[]) (h0 : 0 < sz) (kk : ∀ b, K (.slice (some ⟨b, 0, none⟩) 0 0) (.row (.slice (some ⟨b, 0, none⟩) 0 0) e sz 0 [] :: H) R) : GW P w0 E (.buildSlice t 0 parts) ty H R K := fun w hw => by
  subst hp
  obtain ⟨v', w', H', R', r1, r2, b, rfl, rfl, rfl⟩ := bK (P := P) (t := t) (w0 := w0) (E := E) (ty := ty) (H := H) (R := R) (n := 0) (parts := #[]) (h := h) (K := fun v H' R' => ∃ b, v = .slice (some ⟨b, 0, none⟩) 0 0 ∧ H' = .blk b [] e :: H ∧ R' = R) dB (cs := []) rfl rfl (fun b => ⟨b, rfl, rfl, rfl⟩) w hw
  exact ⟨_, w', _, _, r1, r2.torow (i := 0) (cs := []) (sp := []) (n := 0) (cap := 0) (size := sz) rfl dB dB aO cQ, kk b⟩
end
section
variable {P : Program} {w0 : World} {E : List Value} {H : List Hp} {R : List MP} {ty : TypeId} {K : Value → List MP → Prop}
end
end Go.Proofs.YtggdljhmbckpmaaGreat
namespace Go.Proofs.YtggdljhmbckpmaaGreat
open Go Go.RowKit
set_option maxRecDepth 100000
set_option maxHeartbeats 800000

theorem p7 {w0 : World} {H : List Hp} {R : List MP} {K : Value → List Hp → List MP → Prop} (a n s : Int) (ha : dO a) (hn : 0 ≤ n ∧ n ≤ 9223372036854775807) (hs : 0 ≤ s ∧ s ≤ 9223372036854775807)
    (kt : jW a n s = true → K (.bool true) H R) (kf : jW a n s = false → K (.bool false) H R) : CallsK Tryz.prog w0 116 #[.int .i64 a, .int .i64 n, .int .i64 s] H R K := by
  unfold jW at kt kf
  unfold dO at ha
  refine bV Tryz.func116 rfl Tryz.ntmps116 fI ?_
  repeat' first
    | (apply aF)
    | (apply aA)
    | (apply aV)
    | (apply bP)
    | (apply bF)
    | (apply cG)
    | (apply aK; exact rfl)
    | (apply aJ; exact rfl)
    | (apply aH)
    | (apply aD)
    | (apply bN)
    | (apply aW)
    | (apply aM)
    | (apply bU)
    | (apply dQ)
    | (apply cI)
    | (apply aS)
    | (apply fB; exact rfl)
    | (apply aP; exact rfl; (first | refine aL (i := 0) rfl rfl rfl ?_ | refine aL (i := 1) rfl rfl rfl ?_ | refine aL (i := 2) rfl rfl rfl ?_ | refine aL (i := 3) rfl rfl rfl ?_ | refine aL (i := 4) rfl rfl rfl ?_ | refine aL (i := 5) rfl rfl rfl ?_ | refine aQ rfl cL rfl ?_ | refine bD rfl cL rfl ?_ | refine aQ rfl aX rfl ?_ | refine bD rfl aX rfl ?_); refine aB ?_)
    | (apply aU; exact rfl; (first | refine bM rfl rfl aO aO ?_ | refine eY rfl rfl aO aO ?_ | refine gR rfl rfl aO aO ?_ | refine kT rfl rfl aO aO aO ?_ | refine lA rfl rfl aO aO ?_); refine aB ?_)
    | (apply aU; exact rfl; (first | refine bQ rfl rfl (fun h => ?_) (fun h => ?_) | refine lY rfl rfl (fun h => ?_) (fun h => ?_) | refine fD rfl rfl (fun h => ?_) (fun h => ?_) | refine jS rfl rfl (fun h => ?_) (fun h => ?_) | refine fZ rfl rfl (fun h => ?_) (fun h => ?_) | refine eD rfl rfl (fun h => ?_) (fun h => ?_)) <;> first | (exfalso; omega) | refine aB ?_)
    | (refine aE rfl rfl ?_; (first | refine aG ?_ | refine aY ?_ | refine bX rfl eR ?_ | refine cH rfl eR ?_ | refine bA rfl ?_ | refine aC rfl ?_ | refine bS rfl ?_ | refine kI rfl ?_ | refine cD rfl rfl ?_ | refine dJ rfl ?_ | refine cR iE iE ?_ | refine dI gG ?_ | refine fC rfl ?_); refine aB ?_)
    | (refine cX rfl ?_; refine aB ?_)
    | (refine bJ rfl rfl ?_; (first | refine dX cW (fun b => ?_) | refine bL cW (fun b => ?_) | refine bK cQ fP rfl (fun b => ?_)); refine aB ?_)
  all_goals
    refine aZ (.inl rfl) (dP rfl (bR rfl)) (cA H R (fun _ h => h) ?_)
    first | exact kf (decide_eq_false aO) | exact kt (decide_eq_true aO)

theorem spl_spl (xs zs us : List UInt8) (a : Nat) (h : a + zs.length + us.length ≤ xs.length) : pI (pI xs a zs) (a + zs.length) us = pI xs a (zs ++ us) := by
  unfold pI
  have h1 : (xs.take a).length = a := by simp; omega
  have e1 : (xs.take a ++ zs ++ xs.drop (a + zs.length)).take (a + zs.length) = xs.take a ++ zs := by
    rw [List.take_append_of_le_length (by simp; omega), List.take_of_length_le (by simp; omega)]
  have e2 : (xs.take a ++ zs ++ xs.drop (a + zs.length)).drop (a + zs.length + us.length) = xs.drop (a + (zs ++ us).length) := by
    rw [List.drop_append, List.drop_of_length_le (by simp; omega), List.nil_append, List.drop_drop]
    congr 1; simp [h1]; omega
  rw [e1, e2]; simp
theorem put_step (xs ys : List UInt8) (sp : List Value) (a i o : Nat) (hi : i < ys.length) (h : a + ys.length ≤ xs.length) (ho : o = a + i) : gL (bC (pI xs a (ys.take i)) ++ sp) o [fH ys[i]] = bC (pI xs a (ys.take (i + 1))) ++ sp := by
  subst ho
  have hl : (ys.take i).length = i := by simp; omega
  have h1 : (pI xs a (ys.take i)).length = xs.length := kP _ _ _ aO
  have e : [fH ys[i]] = bC [ys[i]] := rfl
  rw [e, pM _ _ _ _ (by simp; omega)]
  have := spl_spl xs (ys.take i) [ys[i]] a (by simp; omega)
  rw [hl] at this
  rw [this, List.take_succ_eq_append_getElem hi]
/-- put writes bytes into an owned block. -/
theorem rput_k {w0 : World} {H : List Hp} {R : List MP} {K : Value → List Hp → List MP → Prop} (bb c : Nat) (A : Option Addr) (n cy : Nat) (xs ys : List UInt8) (sp : List Value) (a : Int) (hx : xs.length ≤ 600000) (h0 : 0 ≤ a) (hay : a.toNat + ys.length ≤ xs.length) (hny : n = ys.length) (hm : Sl (.slice A n cy) ys ∈ R)
    (k : K (.slice (some ⟨bb, 0, none⟩) xs.length c) (.blk bb (bC (pI xs a.toNat ys) ++ sp) 5 :: H) R) : CallsK Tryz.prog w0 118 #[.slice (some ⟨bb, 0, none⟩) xs.length c, .int .i64 a, .slice A n cy] (.blk bb (bC xs ++ sp) 5 :: H) R K := by
  subst hny
  refine bV Tryz.func118 rfl Tryz.ntmps118 fI ?_
  repeat' first
    | (apply aF)
    | (apply aA)
    | (apply aV)
    | (apply bP)
    | (apply bF)
    | (apply cG)
    | (apply aK; exact rfl)
    | (apply aJ; exact rfl)
    | (apply aH)
    | (apply aD)
    | (apply bN)
    | (apply aW)
    | (apply aM)
    | (apply bU)
    | (apply dQ)
    | (apply cI)
    | (apply aS)
    | (apply fB; exact rfl)
    | (apply aP; exact rfl; (first | refine aL (i := 0) rfl rfl rfl ?_ | refine aL (i := 1) rfl rfl rfl ?_ | refine aL (i := 2) rfl rfl rfl ?_ | refine aL (i := 3) rfl rfl rfl ?_ | refine aL (i := 4) rfl rfl rfl ?_ | refine aL (i := 5) rfl rfl rfl ?_ | refine aQ rfl cL rfl ?_ | refine bD rfl cL rfl ?_ | refine aQ rfl aX rfl ?_ | refine bD rfl aX rfl ?_); refine aB ?_)
    | (apply aU; exact rfl; (first | refine bM rfl rfl aO aO ?_ | refine eY rfl rfl aO aO ?_ | refine gR rfl rfl aO aO ?_ | refine kT rfl rfl aO aO aO ?_ | refine lA rfl rfl aO aO ?_); refine aB ?_)
    | (apply aU; exact rfl; (first | refine bQ rfl rfl (fun h => ?_) (fun h => ?_) | refine lY rfl rfl (fun h => ?_) (fun h => ?_) | refine fD rfl rfl (fun h => ?_) (fun h => ?_) | refine jS rfl rfl (fun h => ?_) (fun h => ?_) | refine fZ rfl rfl (fun h => ?_) (fun h => ?_) | refine eD rfl rfl (fun h => ?_) (fun h => ?_)) <;> first | (exfalso; omega) | refine aB ?_)
    | (refine aE rfl rfl ?_; (first | refine aG ?_ | refine aY ?_ | refine bX rfl eR ?_ | refine cH rfl eR ?_ | refine bA rfl ?_ | refine aC rfl ?_ | refine bS rfl ?_ | refine kI rfl ?_ | refine cD rfl rfl ?_ | refine dJ rfl ?_ | refine cR iE iE ?_ | refine dI gG ?_ | refine fC rfl ?_); refine aB ?_)
    | (refine cX rfl ?_; refine aB ?_)
    | (refine bJ rfl rfl ?_; (first | refine dX cW (fun b => ?_) | refine bL cW (fun b => ?_) | refine bK cQ fP rfl (fun b => ?_)); refine aB ?_)
  refine cM [7, 8, 9, 10, 11, 12, 13, 14, 15, 16, 17, 18, 19, 20, 21, 22] (fun m j H' R' => R = R' ∧ ∃ i : Nat, i + m = ys.length ∧ j 7 = .int .i64 (i : Int) ∧ .blk bb (bC (pI xs a.toNat (ys.take i)) ++ sp) 5 :: H = H') ys.length eS ⟨rfl, 0, by omega, rfl, by simp [pI]⟩ ?_
  rintro m j H' R' ⟨hR, i, hi, h7, hH⟩
  subst hH; subst hR
  refine dD (by simp only [eF, List.foldl_cons, List.foldl_nil, List.set_cons_succ, List.set_cons_zero, h7]; rfl) ?_
  repeat' first
    | (apply gZ; exact rfl; refine tX rfl rfl aO aO ?_; refine aB ?_)
    | (apply bE; exact rfl; refine aN (i := 0) (vs := [fH ys[i]]) rfl cW rfl dT (by simp [pI]; omega) (by simp [Value.oneCell', fH]) ?_; refine aB ?_)
    | (apply aF)
    | (apply aA)
    | (apply aV)
    | (apply bP)
    | (apply bF)
    | (apply cG)
    | (apply aK; exact rfl)
    | (apply aJ; exact rfl)
    | (apply aH)
    | (apply aD)
    | (apply bN)
    | (apply aW)
    | (apply aM)
    | (apply bU)
    | (apply dQ)
    | (apply cI)
    | (apply aS)
    | (apply fB; exact rfl)
    | (apply aP; exact rfl; (first | refine aL (i := 0) rfl rfl rfl ?_ | refine aL (i := 1) rfl rfl rfl ?_ | refine aL (i := 2) rfl rfl rfl ?_ | refine aL (i := 3) rfl rfl rfl ?_ | refine aL (i := 4) rfl rfl rfl ?_ | refine aL (i := 5) rfl rfl rfl ?_ | refine aQ rfl cL rfl ?_ | refine bD rfl cL rfl ?_ | refine aQ rfl aX rfl ?_ | refine bD rfl aX rfl ?_); refine aB ?_)
    | (apply aU; exact rfl; (first | refine bM rfl rfl aO aO ?_ | refine eY rfl rfl aO aO ?_ | refine gR rfl rfl aO aO ?_ | refine kT rfl rfl aO aO aO ?_ | refine lA rfl rfl aO aO ?_); refine aB ?_)
    | (apply aU; exact rfl; (first | refine bQ rfl rfl (fun h => ?_) (fun h => ?_) | refine lY rfl rfl (fun h => ?_) (fun h => ?_) | refine fD rfl rfl (fun h => ?_) (fun h => ?_) | refine jS rfl rfl (fun h => ?_) (fun h => ?_) | refine fZ rfl rfl (fun h => ?_) (fun h => ?_) | refine eD rfl rfl (fun h => ?_) (fun h => ?_)) <;> first | (exfalso; omega) | refine aB ?_)
    | (apply gZ; exact rfl; (first | refine iQ eR rfl aX (List.getElem?_eq_getElem aO) (fun b o => ?_) | refine iP eR rfl aX (List.getElem?_eq_getElem aO) (fun b o hI => ?_) | refine iB eR rfl aX (List.getElem?_eq_getElem aO) (fun b o A c hI hL => ?_) | refine gX eR rfl aX (List.getElem?_eq_getElem aO) (fun b o A c hI hI2 hL => ?_) | refine rZ eR rfl aX (List.getElem?_eq_getElem aO) (fun b o hI => ?_) | refine fT eR rfl aX (List.getElem?_eq_getElem aO) aO (fun b o => ?_) | refine uC eR rfl aX (List.getElem?_eq_getElem aO) aO (fun b o hI => ?_) | refine tS eR rfl aX (List.getElem?_eq_getElem aO) aO (fun b o A c hI hL => ?_) | refine mG eR rfl aX (List.getElem?_eq_getElem aO) aO (fun b o A c hI hI2 hL => ?_) | refine tN eR rfl aX (List.getElem?_eq_getElem aO) aO (fun b o hI => ?_)); refine aB ?_)
    | (refine aE rfl rfl ?_; (first | refine aG ?_ | refine aY ?_ | refine bX rfl eR ?_ | refine cH rfl eR ?_ | refine bA rfl ?_ | refine aC rfl ?_ | refine bS rfl ?_ | refine kI rfl ?_ | refine cD rfl rfl ?_ | refine dJ rfl ?_ | refine cR iE iE ?_ | refine dI gG ?_ | refine fC rfl ?_); refine aB ?_)
    | (refine cX rfl ?_; refine aB ?_)
    | (refine bJ rfl rfl ?_; (first | refine dX cW (fun b => ?_) | refine bL cW (fun b => ?_) | refine bK cQ fP rfl (fun b => ?_)); refine aB ?_)
  · refine cJ (m - 1) (.blk bb (bC (pI xs a.toNat (ys.take (i + 1))) ++ sp) 5 :: H) R aO eS ⟨rfl, i + 1, by omega, rfl, rfl⟩ (fun w hs => ?_)
    rw [← put_step xs ys sp a.toNat i (0 + (a + (i : Int)).toNat * 1) aO hay aO]
    exact hs.weaken dB (fun p hp => by simp [hp])
  · refine aZ (.inl rfl) (dP rfl (bR rfl)) (cA _ R (fun w hs => ?_) k)
    rw [List.take_of_length_le (show ys.length ≤ i by omega)] at hs
    exact hs
end Go.Proofs.YtggdljhmbckpmaaGreat
namespace Go.Proofs.YtggdljhmbckpmaaGreat
open Go Go.RowKit
set_option maxRecDepth 100000
set_option maxHeartbeats 800000

theorem qT {w0 : World} {H : List Hp} {R : List MP} {K : Value → List Hp → List MP → Prop} (A : Option Addr) (c : Nat) (A2 : Option Addr) (c2 : Nat) (d : Drive) (hb : d.bytes.length ≤ 9223372036854775807) (hp : d.pending.length ≤ 9223372036854775807)
    (hm : Sl (.slice A d.bytes.length c) d.bytes ∈ R) (hm2 : Sl (.slice A2 d.pending.length c2) d.pending ∈ R)
    (k : K (.int .i64 (iX d)) H R) : CallsK Tryz.prog w0 59 #[dv A c A2 c2 d] H R K := by
  refine bV Tryz.func59 rfl Tryz.ntmps59 fI ?_
  repeat' (first | (apply aF) | (apply aA) | (apply aV) | (apply bP) | (apply bF) | (apply aK; exact rfl) | (apply aJ; exact rfl) | (apply aH) | (apply aD) | (apply bN) | (apply aP; exact rfl; ((refine aL (i := 0) rfl rfl rfl ?_)); refine aB ?_) | (apply aU; exact rfl; ((refine lA rfl rfl aO aO ?_)); refine aB ?_) | (apply aU; exact rfl; ((first | refine bQ rfl rfl (fun h => ?_) (fun h => ?_) | refine fD rfl rfl (fun h => ?_) (fun h => ?_) | refine eD rfl rfl (fun h => ?_) (fun h => ?_))) <;> (refine aB ?_)) | (refine aE rfl rfl ?_; ((first | refine aG ?_ | refine aY ?_ | refine bX rfl eR ?_ | refine cH rfl eR ?_ | refine aC rfl ?_ | refine bS rfl ?_)); refine aB ?_) | (refine cX rfl ?_; refine aB ?_) | (refine bJ rfl rfl ?_; ((refine dX cW (fun b => ?_))); refine aB ?_))
  iterate 4
    · refine aZ (.inl rfl) (dP rfl (bR rfl)) (cA H R (fun w hs => hs.weaken (List.sublist_cons_self _ _) (fun p hp => hp)) ?_)
      exact qE (k6 aO).symm k
  have hlen : 64 ≤ d.bytes.length ∧ d.bytes.length ≤ 600000 ∧ d.bytes.length % 2 = 0 ∧ d.pending.length ≤ 100 := by omega
  refine cM [2, 3, 27, 28, 29, 30, 31, 32, 33, 34, 35, 36, 37, 38, 39, 40, 41, 42, 43, 44, 45, 46, 47, 48, 49, 50, 51] (fun m j H' R' => .blk b [.slice A d.bytes.length c, .slice A2 d.pending.length c2] 51 :: H = H' ∧ R = R' ∧ ∃ i : Nat, i + m = d.pending.length ∧ j 3 = .int .i64 i ∧ ∀ l (hl : l < d.pending.length), l < i → wOk d.bytes.length d.pending[l] = true) d.pending.length eS ⟨rfl, rfl, 0, by omega, rfl, fun l hl h => by omega⟩ ?_
  rintro m j H' R' ⟨hH, hR, i, hi, h3, hall⟩
  subst hH; subst hR
  refine dD (by simp only [eF, List.foldl_cons, List.foldl_nil, List.set_cons_succ, List.set_cons_zero, h3]; rfl) ?_
  have HA := Go.Lib.hid hall
  clear hall
  repeat' (first | (apply aF) | (apply aA) | (apply aV) | (apply bP) | (apply bF) | (apply cG) | (apply aK; exact rfl) | (apply aJ; exact rfl) | (apply aH) | (apply aD) | (apply aW) | (apply aS) | (apply aP; exact rfl; ((refine aL (i := 0) rfl rfl rfl ?_)); refine aB ?_) | (apply aU; exact rfl; ((refine bQ rfl rfl (fun h => ?_) (fun h => ?_))) <;> (refine aB ?_)) | (refine aE rfl rfl ?_; ((first | refine aG ?_ | refine aY ?_ | refine aC rfl ?_ | refine bS rfl ?_)); refine aB ?_))
  · skip
    refine eC fK jN (fun _ _ _ _ _ _ h => h) (List.Sublist.refl _) ?_
    all_goals ((refine bG 0 ?_; ((refine aC rfl ?_)); refine aI ?_))
    all_goals ((refine bG 1 ?_; ((refine aL (i := 0) rfl rfl rfl ?_)); refine aI ?_))
    all_goals ((refine bG 2 ?_; ((refine aG ?_)); refine aI ?_))
    all_goals ((refine bG 3 ?_; ((refine iB eR rfl aX (List.getElem?_eq_getElem aO) (fun b o A c hI hL => ?_))); refine aI ?_))
    all_goals ((refine bG 4 ?_; ((refine aC rfl ?_)); refine aI ?_))
    all_goals ((refine bG 5 ?_; ((refine aQ rfl cL rfl ?_)); refine aI ?_))
    all_goals ((refine bG 6 ?_; ((refine aC rfl ?_)); refine aI ?_))
    all_goals ((refine bG 7 ?_; ((refine aL (i := 0) rfl rfl rfl ?_)); refine aI ?_))
    all_goals ((refine bG 8 ?_; ((refine aG ?_)); refine aI ?_))
    all_goals ((refine bG 9 ?_; ((refine iB eR rfl aX (List.getElem?_eq_getElem aO) (fun b o A c hI hL => ?_))); refine aI ?_))
    all_goals ((refine bG 10 ?_; ((refine aC rfl ?_)); refine aI ?_))
    all_goals ((refine bG 11 ?_; ((refine aQ rfl cL rfl ?_)); refine aI ?_))
    all_goals ((refine bG 12 ?_; ((refine bS rfl ?_)); refine aI ?_))
    all_goals ((refine bG 13 ?_; ((refine aC rfl ?_)); refine aI ?_))
    all_goals ((refine bG 14 ?_; ((refine aL (i := 0) rfl rfl rfl ?_)); refine aI ?_))
    all_goals ((refine bG 15 ?_; ((refine bS rfl ?_)); refine aI ?_))
    -- left: [16, 17]; ready: [16]: ['call']
    refine gE 16 ?_
    refine aT fA ?_; refine p7 _ _ _ (by assumption) ⟨by omega, by omega⟩ ⟨by omega, by omega⟩ (fun hB => ?_) (fun hB => ?_)
    · refine ⟨.inl dV, ?_⟩; refine aI ?_
      all_goals ((refine bG 17 ?_; ((refine dJ rfl ?_)); refine aI ?_))
      all_goals refine iC ?_
      repeat' (first | (apply aA) | (apply bF) | (apply aJ; exact rfl) | (apply aH) | (apply aD) | (apply bU) | (apply aU; exact rfl; ((refine bM rfl rfl aO aO ?_)); refine aB ?_) | (refine aE rfl rfl ?_; ((first | refine aG ?_ | refine aY ?_)); refine aB ?_))
      refine cJ (m - 1) _ R aO eS ⟨rfl, rfl, i + 1, by omega, rfl, fun l hl h => ?_⟩ dV
      by_cases e : l = i
      · subst e; exact hB
      · exact HA.out l hl aO
    · refine ⟨.inl dV, ?_⟩; refine aI ?_
      all_goals ((refine bG 17 ?_; ((refine dJ rfl ?_)); refine aI ?_))
      all_goals refine iC ?_
      repeat' (first | (apply aF) | (apply aA) | (apply bP) | (apply aK; exact rfl) | (apply aH) | (apply aD) | (apply bN) | (apply dQ) | (refine aE rfl rfl ?_; ((refine aY ?_)); refine aB ?_))
      refine aZ (.inl rfl) (dP rfl (bR rfl)) (cA H R dV ?_)
      exact qE (errD_w aO hB).symm k
  · refine aZ (.inl rfl) (dP rfl (bR rfl)) (cA H R dV ?_)
    exact qE (xT hlen (fun l hl => HA.out l hl aO)).symm k

end Go.Proofs.YtggdljhmbckpmaaGreat
namespace Go.Proofs.YtggdljhmbckpmaaGreat
open Go Go.RowKit
set_option maxRecDepth 100000
set_option maxHeartbeats 800000

theorem rput_k' {w0 : World} {H : List Hp} {R : List MP} {K : Value → List Hp → List MP → Prop} (bb c m : Nat) (A : Option Addr) (n cy : Nat) (xs ys : List UInt8) (sp : List Value) (a : Int) (hmx : m = xs.length) (hx : xs.length ≤ 600000) (h0 : 0 ≤ a) (hay : a.toNat + ys.length ≤ xs.length) (hny : n = ys.length) (hm : Sl (.slice A n cy) ys ∈ R)
    (k : K (.slice (some ⟨bb, 0, none⟩) m c) (.blk bb (bC (pI xs a.toNat ys) ++ sp) 5 :: H) R) : CallsK Tryz.prog w0 118 #[.slice (some ⟨bb, 0, none⟩) m c, .int .i64 a, .slice A n cy] (.blk bb (bC xs ++ sp) 5 :: H) R K := by
  subst hmx; exact rput_k bb c A n cy xs ys sp a hx h0 hay hny hm k
theorem rhas_k {w0 : World} {H : List Hp} {R : List MP} {K : Value → List Hp → List MP → Prop} (A : Option Addr) (c : Nat) (A2 : Option Addr) (c2 : Nat) (d : Drive) (hd : eW d = true)
    (hm : Sl (.slice A d.bytes.length c) d.bytes ∈ R) (hm2 : Sl (.slice A2 d.pending.length c2) d.pending ∈ R)
    (k : ∀ v, K v (.row v 5 1 (gW d).length (bC (gW d)) :: H) R) : CallsK Tryz.prog w0 61 #[dv A c A2 c2 d] H R K := by
  obtain ⟨h64, hmax, hmod, h100, hw⟩ := fX hd
  rw [fM hd] at k
  have HW := Go.Lib.hid hw
  clear hw
  refine bV Tryz.func61 rfl Tryz.ntmps61 fI ?_
  repeat' (first | (refine bJ rfl rfl ?_; refine rH rfl cQ (fun bz => ?_); refine aB ?_) | (refine bJ rfl rfl ?_; refine gK 0 rfl rfl aX rfl rfl aO aO (fun v => ?_); refine aB ?_; refine cE ?_) | (apply aF) | (apply aA) | (apply aV) | (apply aH) | (apply aD) | (apply aP; exact rfl; ((refine aL (i := 1) rfl rfl rfl ?_)); refine aB ?_) | (refine aE rfl rfl ?_; ((first | refine aY ?_ | refine aC rfl ?_)); refine aB ?_) | (refine bJ rfl rfl ?_; ((refine dX cW (fun b => ?_))); refine aB ?_))
  refine tQ 0 rfl aO (fun b' cap sp hv hl1 hl2 hcap hcapm => ?_)
  subst hv
  refine jB tH ?_
  refine cM [3, 4, 9, 10, 11, 12, 13, 14, 15, 16, 17, 18, 19, 20, 21, 22, 23, 24, 25, 26, 27, 28, 29] (fun m j H' R' => R = R' ∧ ∃ i : Nat, i + m = d.pending.length ∧ j 4 = .int .i64 i ∧ j 3 = .slice (some ⟨b', 0, none⟩) d.bytes.length cap ∧ ∃ cur : List UInt8, cur.length = d.bytes.length ∧ cur = (d.pending.take i).foldl (fun xs w => pI xs w.at_.toNat w.data) d.bytes ∧
    (.blk b' (bC cur ++ sp) 5 :: .blk b [.slice A d.bytes.length c, .slice A2 d.pending.length c2] 51 :: H) = H') d.pending.length eS ⟨rfl, 0, by omega, rfl, by simp, d.bytes, rfl, rfl, rfl⟩ ?_
  rintro m j H' R' ⟨hR, i, hi, h4, h3, cur, hcl, hcur, hH⟩
  subst hH; subst hR
  have HC := Go.Lib.hid hcur
  clear hcur
  refine dD (by simp only [eF, List.foldl_cons, List.foldl_nil, List.set_cons_succ, List.set_cons_zero, h4, h3]; rfl) ?_
  repeat' (first | (apply aF) | (apply aA) | (apply aV) | (apply bP) | (apply bF) | (apply cG) | (apply aK; exact rfl) | (apply aJ; exact rfl) | (apply aH) | (apply aD) | (apply aW) | (apply aS) | (apply aP; exact rfl; ((refine aL (i := 1) rfl rfl rfl ?_)); refine aB ?_) | (apply aU; exact rfl; ((refine bQ rfl rfl (fun h => ?_) (fun h => ?_))) <;> (refine aB ?_)) | (refine aE rfl rfl ?_; ((first | refine aG ?_ | refine aY ?_ | refine aC rfl ?_ | refine bS rfl ?_)); refine aB ?_))
  · have hwi : 0 ≤ d.pending[i].at_ ∧ d.pending[i].at_.toNat + d.pending[i].data.length ≤ d.bytes.length := HW.out i aO
    refine eC fK jN (fun _ _ _ _ _ _ h => h) fE ?_
    all_goals ((refine bY 0 fE ?_; ((refine aG ?_)); refine aI ?_))
    all_goals ((refine bY 1 fE ?_; ((refine aC rfl ?_)); refine aI ?_))
    all_goals ((refine bY 2 fE ?_; ((refine aL (i := 0) rfl rfl rfl ?_)); refine aI ?_))
    all_goals ((refine bY 3 fE ?_; ((refine aG ?_)); refine aI ?_))
    all_goals ((refine bY 4 fE ?_; ((refine iB eR rfl aX (List.getElem?_eq_getElem aO) (fun b o A c hI hL => ?_))); refine aI ?_))
    all_goals ((refine bY 5 fE ?_; ((refine aC rfl ?_)); refine aI ?_))
    all_goals ((refine bY 6 fE ?_; ((refine aQ rfl cL rfl ?_)); refine aI ?_))
    all_goals ((refine bY 7 fE ?_; ((refine aC rfl ?_)); refine aI ?_))
    all_goals ((refine bY 8 fE ?_; ((refine aL (i := 0) rfl rfl rfl ?_)); refine aI ?_))
    all_goals ((refine bY 9 fE ?_; ((refine aG ?_)); refine aI ?_))
    all_goals ((refine bY 10 fE ?_; ((refine iB eR rfl aX (List.getElem?_eq_getElem aO) (fun b o A c hI hL => ?_))); refine aI ?_))
    all_goals ((refine bY 11 fE ?_; ((refine aC rfl ?_)); refine aI ?_))
    all_goals ((refine bY 12 fE ?_; ((refine aQ rfl cL rfl ?_)); refine aI ?_))
    -- left: [13, 14]; ready: [13]: ['call']
    refine gE 13 ?_
    refine aT fA ?_; refine rput_k' _ _ _ _ _ _ cur d.pending[i].data sp _ hcl.symm aO hwi.1 aO rfl aX ?_
    refine ⟨.inl dV, ?_⟩; refine aI ?_
    all_goals ((refine bY 14 fE ?_; ((refine aY ?_)); refine aI ?_))
    all_goals refine iC ?_
    repeat' (first | (apply aA) | (apply aH) | (apply aD) | (apply bU) | (apply aU; exact rfl; ((refine bM rfl rfl aO aO ?_)); refine aB ?_) | (refine aE rfl rfl ?_; ((first | refine aG ?_ | refine aY ?_)); refine aB ?_))
    refine cJ (m - 1) _ R aO eS ⟨rfl, i + 1, by omega, rfl, rfl, pI cur d.pending[i].at_.toNat d.pending[i].data, by rw [kP _ _ _ aO]; exact hcl, ?_, rfl⟩ dV
    rw [HC.out, List.take_succ_eq_append_getElem aO, List.foldl_append, List.foldl_cons, List.foldl_nil]
  · refine aZ (.inl rfl) (dP rfl (bR rfl)) (cA (.row (.slice (some ⟨b', 0, none⟩) d.bytes.length cap) 5 1 d.bytes.length (bC (gW d)) :: H) R (fun w hs => ?_) (k _))
    have hc2 : cur = gW d := by
      rw [HC.out, List.take_of_length_le aO]; rfl
    rw [hc2] at hs
    have h1 := hs.torow (i := 0) (n := d.bytes.length) (cap := cap) (size := 1) rfl (by rw [← hl1]; simp [fM hd]) (by simp [fM hd]) hcap hcapm
    exact h1.weaken dB (fun p hp => hp)

/-- Bytes and an errno in one value, for good. -/
def KC (K : Value → List Hp → List MP → Prop) (r : List UInt8 × Int) (H : List Hp) (R : List MP) : Prop := ∀ A c, K (.agg #[.slice A r.1.length c, .int .i64 r.2]) H (Sl (.slice A r.1.length c) r.1 :: R)
theorem xO {K : Value → List Hp → List MP → Prop} {r r' : List UInt8 × Int} {H : List Hp} {R : List MP} (e : r = r') (h : KC K r H R) : KC K r' H R := e ▸ h
end Go.Proofs.YtggdljhmbckpmaaGreat
