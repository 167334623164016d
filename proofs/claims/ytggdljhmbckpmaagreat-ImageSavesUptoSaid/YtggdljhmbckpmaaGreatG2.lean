/- The examples: walk. -/
import Derived.Test.YtggdljhmbckpmaaGreatF14J
set_option linter.unusedVariables false
set_option linter.unusedSimpArgs false
namespace Go.Proofs.YtggdljhmbckpmaaGreat
open Go Go.RowKit
set_option maxRecDepth 100000
set_option maxHeartbeats 8000000

theorem sane_k {w0 : World} {H : List Hp} {R : List MP} {K : Value → List Hp → List MP → Prop} (k : K (.bool true) H R) : CallsK Tryz.prog w0 6 #[] H R K := by
  refine bV Tryz.func6 rfl Tryz.ntmps6 fI ?_
  repeat' (first | (apply aF) | (apply aA) | (apply aH) | (apply aD) | (refine aE rfl rfl ?_; ((first | refine aY ?_ | refine dI gG ?_)); refine aB ?_))
  refine dK rfl ?_; refine aT fA ?_; refine p5 (yP encZ 0 rfl (n := 19) rfl (fun Ab cb => ?_)); refine aB ?_
  repeat' (first | (apply aF) | (apply aA) | (apply aH) | (apply aD) | (refine aE rfl rfl ?_; ((first | refine aG ?_ | refine aY ?_ | refine cD rfl rfl ?_)); refine aB ?_) | (refine bJ rfl rfl ?_; ((refine bK cQ fP rfl (fun b => ?_))); refine aB ?_))
  refine wD [109, 97, 2] rfl cQ ?_
  refine dK rfl ?_; refine aT fA ?_; refine yS _ _ aX ?_; simp only [machZ]; refine aB ?_
  repeat' (first | (apply aF) | (apply aA) | (apply aH) | (apply aD) | (apply bE; exact rfl; ((refine aN (i := 0) rfl cW rfl dT dB eK ?_)); refine aB ?_; refine cE ?_) | (refine aE rfl rfl ?_; ((first | refine aG ?_ | refine aY ?_ | refine cD rfl rfl ?_)); refine aB ?_) | (refine bJ rfl rfl ?_; ((refine bL cW (fun b => ?_))); refine aB ?_))
  refine dK rfl ?_; refine aT fA ?_; refine tE 63 (by simp [dO]) (iW exD 1 ex_new63 (fun A1 c1 A2 c2 => ?_)); refine aB ?_
  repeat' (first | (apply aF) | (apply aA) | (apply aH) | (apply aD) | (apply bE; exact rfl; ((refine aN (i := 0) rfl cW rfl dT dB eK ?_)); refine aB ?_; refine cE ?_) | (refine aE rfl rfl ?_; ((first | refine aG ?_ | refine aY ?_ | refine cD rfl rfl ?_)); refine aB ?_) | (refine bJ rfl rfl ?_; ((refine bL cW (fun b => ?_))); refine aB ?_))
  refine dK rfl ?_; refine aT fA ?_; refine tE 64 (by simp [dO]) (iW exD0 0 ex_new64 (fun A3 c3 A4 c4 => ?_)); refine aB ?_
  repeat' (first | (apply aF) | (apply aA) | (apply aH) | (apply aD) | (apply aP; exact rfl; ((refine aL (i := 0) rfl rfl rfl ?_)); refine aB ?_) | (apply bE; exact rfl; ((refine aN (i := 0) rfl cW rfl dT dB eK ?_)); refine aB ?_; refine cE ?_) | (refine aE rfl rfl ?_; ((first | refine aG ?_ | refine aY ?_ | refine cD rfl rfl ?_)); refine aB ?_) | (refine bJ rfl rfl ?_; ((refine bL cW (fun b => ?_))); refine aB ?_))
  revert b
  intro b8
  refine dK rfl ?_; refine aT fA ?_; refine t6 A3 c3 A4 c4 exD0 (by rw [ex_len0.1]; decide) (by rw [ex_len0.2]; decide) aX aX (KR_lit [] 0 ex_rec (n := 0) rfl (fun A5 c5 => ?_)); refine aB ?_
  repeat' (first | (apply aU; exact rfl; refine eD rfl rfl (fun h => absurd rfl h) (fun _ => ?_); refine aB ?_) | (refine aE rfl rfl ?_; refine fT (v := .slice _ 19 _) (xs := encZ) rfl rfl xW rfl cQ (fun b o => ?_); refine aB ?_) | (apply aF) | (apply aA) | (apply bF) | (apply aJ; exact rfl) | (apply aH) | (apply aD) | (apply aP; exact rfl; ((first | refine aL (i := 0) rfl rfl rfl ?_ | refine bD rfl cL rfl ?_)); refine aB ?_) | (refine aE rfl rfl ?_; ((first | refine aG ?_ | refine aY ?_ | refine cH rfl eR ?_ | refine bS rfl ?_ | refine cD rfl rfl ?_)); refine aB ?_) | (refine bJ rfl rfl ?_; ((refine bK cQ fP rfl (fun b => ?_))); refine aB ?_))
  refine wD [7] rfl cQ ?_
  refine dK rfl ?_; refine aT fA ?_; refine tV A3 c3 A4 c4 _ _ exD0 [7] (by rw [ex_len0.1]; decide) (by rw [ex_len0.2]; decide) cQ aX aX aX (KO_lit exO1 0 ex_app1 (n := 6) rfl (fun A6 c6 => ?_)); refine aB ?_
  repeat' (first | (apply aU; exact rfl; refine eD rfl rfl (fun h => absurd rfl h) (fun _ => ?_); refine aB ?_) | (refine aE rfl rfl ?_; refine mG (xs := exO1) rfl rfl xW rfl cQ (fun b o A c h1 h2 h3 => ?_); refine aB ?_) | (refine aE rfl rfl ?_; refine fT (v := .slice _ 22 _) (xs := exR1) rfl rfl xW rfl cQ (fun b o => ?_); refine aB ?_) | (refine aE rfl rfl ?_; refine fT (v := .slice _ 1 _) (xs := [167]) rfl rfl xW rfl cQ (fun b o => ?_); refine aB ?_) | (apply aF) | (apply aA) | (apply bF) | (apply aJ; exact rfl) | (apply aH) | (apply aD) | (apply aP; exact rfl; ((first | refine aL (i := 0) rfl rfl rfl ?_ | refine aQ rfl cL rfl ?_ | refine bD rfl cL rfl ?_)); refine aB ?_) | (refine aE rfl rfl ?_; ((first | refine aG ?_ | refine aY ?_ | refine cH rfl eR ?_ | refine aC rfl ?_ | refine bS rfl ?_ | refine cD rfl rfl ?_)); refine aB ?_))
  refine dK rfl ?_; refine aT fA ?_; refine lL A3 c3 A4 c4 A6 6 c6 exD0 exO1 rfl (by rw [ex_len0.1]; decide) (by rw [ex_len0.2]; decide) cQ aX aX aX (show z9 _ exD1 _ _ from fun A7 c7 A8 c8 => ?_); refine aB ?_
  repeat' (first | (apply aF) | (apply aA) | (apply aH) | (apply aD) | (apply aP; exact rfl; ((refine aL (i := 0) rfl rfl rfl ?_)); refine aB ?_) | (apply bE; exact rfl; ((refine aN (i := 0) rfl cW rfl dT dB eK ?_)); refine aB ?_; refine cE ?_) | (refine bJ rfl rfl ?_; ((refine bK cQ fP rfl (fun b => ?_))); refine aB ?_))
  refine wD [1, 2, 3] rfl cQ ?_
  refine dK rfl ?_; refine aT fA ?_; refine tV A7 c7 A8 c8 _ _ exD1 [1, 2, 3] (by rw [ex_len1.1]; decide) (by rw [ex_len1.2]; decide) cQ aX aX aX (KO_lit exO2 0 ex_app2 (n := 6) rfl (fun A9 c9 => ?_)); refine aB ?_
  repeat' (first | (apply aU; exact rfl; refine eD rfl rfl (fun h => absurd rfl h) (fun _ => ?_); refine aB ?_) | (refine aE rfl rfl ?_; refine mG (xs := exO2) rfl rfl xW rfl cQ (fun b o A c h1 h2 h3 => ?_); refine aB ?_) | (refine aE rfl rfl ?_; refine fT (v := .slice _ 24 _) (xs := exR2) rfl rfl xW rfl cQ (fun b o => ?_); refine aB ?_) | (apply aF) | (apply aA) | (apply bF) | (apply aJ; exact rfl) | (apply aH) | (apply aD) | (apply aP; exact rfl; ((first | refine aQ rfl cL rfl ?_ | refine bD rfl cL rfl ?_)); refine aB ?_) | (refine aE rfl rfl ?_; ((first | refine aG ?_ | refine aY ?_ | refine cH rfl eR ?_ | refine aC rfl ?_ | refine bS rfl ?_ | refine cD rfl rfl ?_)); refine aB ?_))
  refine eJ (.blk b8 [.slice A7 exD1.bytes.length c7, .slice A8 exD1.pending.length c8] 51 :: H) (jH A7 c7 A8 c8 exD1 (Sl (.slice A9 6 c9) exO2 :: R)) dV ?_
  refine eC fK jN (fun _ _ _ _ _ _ h => h) eB ?_
  all_goals ((refine bY 0 eB ?_; ((refine aL (i := 0) rfl rfl rfl ?_)); refine aI ?_))
  all_goals ((refine bY 1 eB ?_; ((refine aG ?_)); refine aI ?_))
  all_goals ((refine bY 2 eB ?_; ((refine fY (xs := exO2) rfl aX rfl rfl rfl rfl cQ cQ cQ (fun A10 c10 => ?_))); refine aI ?_))
  -- left: [3, 4, 5, 6, 7, 8, 9, 10, 11]; ready: [3, 4, 9]: ['call', 'buildSlice', 'alloc']
  refine cutD (G := ?G15) ?ha15 ?hb15
  case ha15 =>
    intro hG
    refine dW _ (List.Sublist.refl _) hP ?_
    refine TA_3 3 4 9 ?_ ?_ ?_
    · skip
      refine aT fA ?_; refine lL A7 c7 A8 c8 A10 _ c10 exD1 ((exO2.take (5 : Int).toNat).drop (0 : Int).toNat) rfl (by rw [ex_len1.1]; decide) (by rw [ex_len1.2]; decide) cQ aX aX aX (show z9 _ exD2 _ _ from fun Ad cd Ad2 cd2 => ?_)
      refine ⟨.inl dV, ?_⟩; refine aI ?_
      refine pZ 4 9 ?_ ?_
      · skip
        refine GW.ow rfl ?_; refine bK cQ fP rfl (fun bB => ?_)
        refine ⟨.inl dV, ?_⟩; refine aI ?_
        refine fN (fun w hs => hs.ints_stay [0] rfl (by intro x hx; simp at hx; subst hx; simp [dO]) cQ) ?_
        refine pZ 5 9 ?_ ?_
        · skip
          refine aT fA ?_; refine iH Ad cd Ad2 cd2 _ _ exD2 [0] (by rw [ex_len2.1]; decide) (by rw [ex_len2.2]; decide) cQ aX aX aX (iW exX 0 kA (fun Au cu Au2 cu2 => ?_))
          refine ⟨.inl dV, ?_⟩; refine aI ?_
          refine dW _ (List.Sublist.refl _) hP ?_
          all_goals (refine bY 6 eB ?_; ((refine aG ?_)); refine aI ?_)
          all_goals (refine bY 7 eB ?_; ((refine cD rfl rfl ?_)); refine aI ?_)
          all_goals (refine bY 8 eB ?_; ((refine cD rfl rfl ?_)); refine aI ?_)
          refine gE 9 ?_
          refine GW.ow rfl ?_; refine bL cW (fun bZ => ?_)
          refine ⟨.inl dV, ?_⟩; refine aI ?_
          refine fN (H' := .blk bZ [.slice none 0 0, .slice none 0 0] 51 :: .blk b8 [.slice A7 exD1.bytes.length c7, .slice A8 exD1.pending.length c8] 51 :: H) (R' := jH Au cu Au2 cu2 exX (jH Ad cd Ad2 cd2 exD2 (Sl (.slice (some ⟨bB, 0, none⟩) ([0] : List Int).length ([0] : List Int).length) ([0] : List Int) :: Sl (.slice A10 ((5 : Int).toNat - (0 : Int).toNat) c10) ((exO2.take (5 : Int).toNat).drop (0 : Int).toNat) :: jH A7 c7 A8 c8 exD1 (Sl (.slice A9 6 c9) exO2 :: R)))) dV ?_
          refine dW _ (List.Sublist.refl _) hP ?_
          exact hG Ad cd Ad2 cd2 bB bZ Au cu Au2 cu2
        · skip
          refine GW.ow rfl ?_; refine bL cW (fun bZ => ?_)
          refine ⟨.inl dV, ?_⟩; refine aI ?_
          refine gE 5 ?_
          refine aT fA ?_; refine iH Ad cd Ad2 cd2 _ _ exD2 [0] (by rw [ex_len2.1]; decide) (by rw [ex_len2.2]; decide) cQ aX aX aX (iW exX 0 kA (fun Au cu Au2 cu2 => ?_))
          refine ⟨.inl dV, ?_⟩; refine aI ?_
          refine dW _ (List.Sublist.refl _) hP ?_
          all_goals (refine bY 6 eB ?_; ((refine aG ?_)); refine aI ?_)
          all_goals (refine bY 7 eB ?_; ((refine cD rfl rfl ?_)); refine aI ?_)
          all_goals (refine bY 8 eB ?_; ((refine cD rfl rfl ?_)); refine aI ?_)
          refine fN (H' := .blk bZ [.slice none 0 0, .slice none 0 0] 51 :: .blk b8 [.slice A7 exD1.bytes.length c7, .slice A8 exD1.pending.length c8] 51 :: H) (R' := jH Au cu Au2 cu2 exX (jH Ad cd Ad2 cd2 exD2 (Sl (.slice (some ⟨bB, 0, none⟩) ([0] : List Int).length ([0] : List Int).length) ([0] : List Int) :: Sl (.slice A10 ((5 : Int).toNat - (0 : Int).toNat) c10) ((exO2.take (5 : Int).toNat).drop (0 : Int).toNat) :: jH A7 c7 A8 c8 exD1 (Sl (.slice A9 6 c9) exO2 :: R)))) dV ?_
          refine dW _ (List.Sublist.refl _) hP ?_
          exact hG Ad cd Ad2 cd2 bB bZ Au cu Au2 cu2
      · skip
        refine GW.ow rfl ?_; refine bL cW (fun bZ => ?_)
        refine ⟨.inl dV, ?_⟩; refine aI ?_
        refine gE 4 ?_
        refine GW.ow rfl ?_; refine bK cQ fP rfl (fun bB => ?_)
        refine ⟨.inl dV, ?_⟩; refine aI ?_
        refine fN (fun w hs => hs.ints_stay [0] rfl (by intro x hx; simp at hx; subst hx; simp [dO]) cQ) ?_
        refine gE 5 ?_
        refine aT fA ?_; refine iH Ad cd Ad2 cd2 _ _ exD2 [0] (by rw [ex_len2.1]; decide) (by rw [ex_len2.2]; decide) cQ aX aX aX (iW exX 0 kA (fun Au cu Au2 cu2 => ?_))
        refine ⟨.inl dV, ?_⟩; refine aI ?_
        refine dW _ (List.Sublist.refl _) hP ?_
        all_goals (refine bY 6 eB ?_; ((refine aG ?_)); refine aI ?_)
        all_goals (refine bY 7 eB ?_; ((refine cD rfl rfl ?_)); refine aI ?_)
        all_goals (refine bY 8 eB ?_; ((refine cD rfl rfl ?_)); refine aI ?_)
        refine fN (H' := .blk bZ [.slice none 0 0, .slice none 0 0] 51 :: .blk b8 [.slice A7 exD1.bytes.length c7, .slice A8 exD1.pending.length c8] 51 :: H) (R' := jH Au cu Au2 cu2 exX (jH Ad cd Ad2 cd2 exD2 (Sl (.slice (some ⟨bB, 0, none⟩) ([0] : List Int).length ([0] : List Int).length) ([0] : List Int) :: Sl (.slice A10 ((5 : Int).toNat - (0 : Int).toNat) c10) ((exO2.take (5 : Int).toNat).drop (0 : Int).toNat) :: jH A7 c7 A8 c8 exD1 (Sl (.slice A9 6 c9) exO2 :: R)))) dV ?_
        refine dW _ (List.Sublist.refl _) hP ?_
        exact hG Ad cd Ad2 cd2 bB bZ Au cu Au2 cu2
    · skip
      refine GW.ow rfl ?_; refine bK cQ fP rfl (fun bB => ?_)
      refine ⟨.inl dV, ?_⟩; refine aI ?_
      refine fN (fun w hs => hs.ints_stay [0] rfl (by intro x hx; simp at hx; subst hx; simp [dO]) cQ) ?_
      refine pZ 3 9 ?_ ?_
      · skip
        refine aT fA ?_; refine lL A7 c7 A8 c8 A10 _ c10 exD1 ((exO2.take (5 : Int).toNat).drop (0 : Int).toNat) rfl (by rw [ex_len1.1]; decide) (by rw [ex_len1.2]; decide) cQ aX aX aX (show z9 _ exD2 _ _ from fun Ad cd Ad2 cd2 => ?_)
        refine ⟨.inl dV, ?_⟩; refine aI ?_
        refine pZ 5 9 ?_ ?_
        · skip
          refine aT fA ?_; refine iH Ad cd Ad2 cd2 _ _ exD2 [0] (by rw [ex_len2.1]; decide) (by rw [ex_len2.2]; decide) cQ aX aX aX (iW exX 0 kA (fun Au cu Au2 cu2 => ?_))
          refine ⟨.inl dV, ?_⟩; refine aI ?_
          refine dW _ (List.Sublist.refl _) hP ?_
          all_goals (refine bY 6 eB ?_; ((refine aG ?_)); refine aI ?_)
          all_goals (refine bY 7 eB ?_; ((refine cD rfl rfl ?_)); refine aI ?_)
          all_goals (refine bY 8 eB ?_; ((refine cD rfl rfl ?_)); refine aI ?_)
          refine gE 9 ?_
          refine GW.ow rfl ?_; refine bL cW (fun bZ => ?_)
          refine ⟨.inl dV, ?_⟩; refine aI ?_
          refine fN (H' := .blk bZ [.slice none 0 0, .slice none 0 0] 51 :: .blk b8 [.slice A7 exD1.bytes.length c7, .slice A8 exD1.pending.length c8] 51 :: H) (R' := jH Au cu Au2 cu2 exX (jH Ad cd Ad2 cd2 exD2 (Sl (.slice (some ⟨bB, 0, none⟩) ([0] : List Int).length ([0] : List Int).length) ([0] : List Int) :: Sl (.slice A10 ((5 : Int).toNat - (0 : Int).toNat) c10) ((exO2.take (5 : Int).toNat).drop (0 : Int).toNat) :: jH A7 c7 A8 c8 exD1 (Sl (.slice A9 6 c9) exO2 :: R)))) dV ?_
          refine dW _ (List.Sublist.refl _) hP ?_
          exact hG Ad cd Ad2 cd2 bB bZ Au cu Au2 cu2
        · skip
          refine GW.ow rfl ?_; refine bL cW (fun bZ => ?_)
          refine ⟨.inl dV, ?_⟩; refine aI ?_
          refine gE 5 ?_
          refine aT fA ?_; refine iH Ad cd Ad2 cd2 _ _ exD2 [0] (by rw [ex_len2.1]; decide) (by rw [ex_len2.2]; decide) cQ aX aX aX (iW exX 0 kA (fun Au cu Au2 cu2 => ?_))
          refine ⟨.inl dV, ?_⟩; refine aI ?_
          refine dW _ (List.Sublist.refl _) hP ?_
          all_goals (refine bY 6 eB ?_; ((refine aG ?_)); refine aI ?_)
          all_goals (refine bY 7 eB ?_; ((refine cD rfl rfl ?_)); refine aI ?_)
          all_goals (refine bY 8 eB ?_; ((refine cD rfl rfl ?_)); refine aI ?_)
          refine fN (H' := .blk bZ [.slice none 0 0, .slice none 0 0] 51 :: .blk b8 [.slice A7 exD1.bytes.length c7, .slice A8 exD1.pending.length c8] 51 :: H) (R' := jH Au cu Au2 cu2 exX (jH Ad cd Ad2 cd2 exD2 (Sl (.slice (some ⟨bB, 0, none⟩) ([0] : List Int).length ([0] : List Int).length) ([0] : List Int) :: Sl (.slice A10 ((5 : Int).toNat - (0 : Int).toNat) c10) ((exO2.take (5 : Int).toNat).drop (0 : Int).toNat) :: jH A7 c7 A8 c8 exD1 (Sl (.slice A9 6 c9) exO2 :: R)))) dV ?_
          refine dW _ (List.Sublist.refl _) hP ?_
          exact hG Ad cd Ad2 cd2 bB bZ Au cu Au2 cu2
      · skip
        refine GW.ow rfl ?_; refine bL cW (fun bZ => ?_)
        refine ⟨.inl dV, ?_⟩; refine aI ?_
        refine gE 3 ?_
        refine aT fA ?_; refine lL A7 c7 A8 c8 A10 _ c10 exD1 ((exO2.take (5 : Int).toNat).drop (0 : Int).toNat) rfl (by rw [ex_len1.1]; decide) (by rw [ex_len1.2]; decide) cQ aX aX aX (show z9 _ exD2 _ _ from fun Ad cd Ad2 cd2 => ?_)
        refine ⟨.inl dV, ?_⟩; refine aI ?_
        refine gE 5 ?_
        refine aT fA ?_; refine iH Ad cd Ad2 cd2 _ _ exD2 [0] (by rw [ex_len2.1]; decide) (by rw [ex_len2.2]; decide) cQ aX aX aX (iW exX 0 kA (fun Au cu Au2 cu2 => ?_))
        refine ⟨.inl dV, ?_⟩; refine aI ?_
        refine dW _ (List.Sublist.refl _) hP ?_
        all_goals (refine bY 6 eB ?_; ((refine aG ?_)); refine aI ?_)
        all_goals (refine bY 7 eB ?_; ((refine cD rfl rfl ?_)); refine aI ?_)
        all_goals (refine bY 8 eB ?_; ((refine cD rfl rfl ?_)); refine aI ?_)
        refine fN (H' := .blk bZ [.slice none 0 0, .slice none 0 0] 51 :: .blk b8 [.slice A7 exD1.bytes.length c7, .slice A8 exD1.pending.length c8] 51 :: H) (R' := jH Au cu Au2 cu2 exX (jH Ad cd Ad2 cd2 exD2 (Sl (.slice (some ⟨bB, 0, none⟩) ([0] : List Int).length ([0] : List Int).length) ([0] : List Int) :: Sl (.slice A10 ((5 : Int).toNat - (0 : Int).toNat) c10) ((exO2.take (5 : Int).toNat).drop (0 : Int).toNat) :: jH A7 c7 A8 c8 exD1 (Sl (.slice A9 6 c9) exO2 :: R)))) dV ?_
        refine dW _ (List.Sublist.refl _) hP ?_
        exact hG Ad cd Ad2 cd2 bB bZ Au cu Au2 cu2
    · skip
      refine GW.ow rfl ?_; refine bL cW (fun bZ => ?_)
      refine ⟨.inl dV, ?_⟩; refine aI ?_
      refine pZ 3 4 ?_ ?_
      · skip
        refine aT fA ?_; refine lL A7 c7 A8 c8 A10 _ c10 exD1 ((exO2.take (5 : Int).toNat).drop (0 : Int).toNat) rfl (by rw [ex_len1.1]; decide) (by rw [ex_len1.2]; decide) cQ aX aX aX (show z9 _ exD2 _ _ from fun Ad cd Ad2 cd2 => ?_)
        refine ⟨.inl dV, ?_⟩; refine aI ?_
        refine gE 4 ?_
        refine GW.ow rfl ?_; refine bK cQ fP rfl (fun bB => ?_)
        refine ⟨.inl dV, ?_⟩; refine aI ?_
        refine fN (fun w hs => hs.ints_stay [0] rfl (by intro x hx; simp at hx; subst hx; simp [dO]) cQ) ?_
        refine gE 5 ?_
        refine aT fA ?_; refine iH Ad cd Ad2 cd2 _ _ exD2 [0] (by rw [ex_len2.1]; decide) (by rw [ex_len2.2]; decide) cQ aX aX aX (iW exX 0 kA (fun Au cu Au2 cu2 => ?_))
        refine ⟨.inl dV, ?_⟩; refine aI ?_
        refine dW _ (List.Sublist.refl _) hP ?_
        all_goals (refine bY 6 eB ?_; ((refine aG ?_)); refine aI ?_)
        all_goals (refine bY 7 eB ?_; ((refine cD rfl rfl ?_)); refine aI ?_)
        all_goals (refine bY 8 eB ?_; ((refine cD rfl rfl ?_)); refine aI ?_)
        refine fN (H' := .blk bZ [.slice none 0 0, .slice none 0 0] 51 :: .blk b8 [.slice A7 exD1.bytes.length c7, .slice A8 exD1.pending.length c8] 51 :: H) (R' := jH Au cu Au2 cu2 exX (jH Ad cd Ad2 cd2 exD2 (Sl (.slice (some ⟨bB, 0, none⟩) ([0] : List Int).length ([0] : List Int).length) ([0] : List Int) :: Sl (.slice A10 ((5 : Int).toNat - (0 : Int).toNat) c10) ((exO2.take (5 : Int).toNat).drop (0 : Int).toNat) :: jH A7 c7 A8 c8 exD1 (Sl (.slice A9 6 c9) exO2 :: R)))) dV ?_
        refine dW _ (List.Sublist.refl _) hP ?_
        exact hG Ad cd Ad2 cd2 bB bZ Au cu Au2 cu2
      · skip
        refine GW.ow rfl ?_; refine bK cQ fP rfl (fun bB => ?_)
        refine ⟨.inl dV, ?_⟩; refine aI ?_
        refine fN (fun w hs => hs.ints_stay [0] rfl (by intro x hx; simp at hx; subst hx; simp [dO]) cQ) ?_
        refine gE 3 ?_
        refine aT fA ?_; refine lL A7 c7 A8 c8 A10 _ c10 exD1 ((exO2.take (5 : Int).toNat).drop (0 : Int).toNat) rfl (by rw [ex_len1.1]; decide) (by rw [ex_len1.2]; decide) cQ aX aX aX (show z9 _ exD2 _ _ from fun Ad cd Ad2 cd2 => ?_)
        refine ⟨.inl dV, ?_⟩; refine aI ?_
        refine gE 5 ?_
        refine aT fA ?_; refine iH Ad cd Ad2 cd2 _ _ exD2 [0] (by rw [ex_len2.1]; decide) (by rw [ex_len2.2]; decide) cQ aX aX aX (iW exX 0 kA (fun Au cu Au2 cu2 => ?_))
        refine ⟨.inl dV, ?_⟩; refine aI ?_
        refine dW _ (List.Sublist.refl _) hP ?_
        all_goals (refine bY 6 eB ?_; ((refine aG ?_)); refine aI ?_)
        all_goals (refine bY 7 eB ?_; ((refine cD rfl rfl ?_)); refine aI ?_)
        all_goals (refine bY 8 eB ?_; ((refine cD rfl rfl ?_)); refine aI ?_)
        refine fN (H' := .blk bZ [.slice none 0 0, .slice none 0 0] 51 :: .blk b8 [.slice A7 exD1.bytes.length c7, .slice A8 exD1.pending.length c8] 51 :: H) (R' := jH Au cu Au2 cu2 exX (jH Ad cd Ad2 cd2 exD2 (Sl (.slice (some ⟨bB, 0, none⟩) ([0] : List Int).length ([0] : List Int).length) ([0] : List Int) :: Sl (.slice A10 ((5 : Int).toNat - (0 : Int).toNat) c10) ((exO2.take (5 : Int).toNat).drop (0 : Int).toNat) :: jH A7 c7 A8 c8 exD1 (Sl (.slice A9 6 c9) exO2 :: R)))) dV ?_
        refine dW _ (List.Sublist.refl _) hP ?_
        exact hG Ad cd Ad2 cd2 bB bZ Au cu Au2 cu2
  case hb15 =>
    intro Ad cd Ad2 cd2 bB bZx Ax cx Ax2 cx2
    refine dW _ (List.Sublist.refl _) hP ?_
    refine mY 10 ?_
    refine aN (i := 0) rfl cW rfl dT dB eK ?_
    refine ⟨.inl dV, ?_⟩
    refine aI ?_
    refine kN ?_
    all_goals ((refine bY 11 eB ?_; ((refine aY ?_)); refine aI ?_))
    all_goals refine iC ?_
    apply aD
    refine eJ (.blk bZx [.slice Ax exX.bytes.length cx, .slice Ax2 exX.pending.length cx2] 51 :: .blk b8 [.slice A7 exD1.bytes.length c7, .slice A8 exD1.pending.length c8] 51 :: H) (jH Ax cx Ax2 cx2 exX (jH A7 c7 A8 c8 exD1 (Sl (.slice A9 6 c9) exO2 :: R))) dV ?_
    apply aF
    refine eC fK jN (fun _ _ _ _ _ _ h => h) eB ?_
    all_goals ((refine bY 0 eB ?_; ((refine aL (i := 1) rfl rfl rfl ?_)); refine aI ?_))
    all_goals ((refine bY 1 eB ?_; ((refine aG ?_)); refine aI ?_))
    all_goals ((refine bY 2 eB ?_; ((refine fY (xs := exO2) rfl aX rfl rfl rfl rfl cQ cQ cQ (fun A10 c10 => ?_))); refine aI ?_))
    -- left: [3, 4, 5, 6, 7, 8, 9, 10, 11]; ready: [3, 4, 9]: ['call', 'buildSlice', 'alloc']
    refine cutD (G := ?G16) ?ha16 ?hb16
    case ha16 =>
      intro hG
      refine dW _ (List.Sublist.refl _) hP ?_
      refine TA_3 3 4 9 ?_ ?_ ?_
      · skip
        refine aT fA ?_; refine lL A7 c7 A8 c8 A10 _ c10 exD1 ((exO2.take (5 : Int).toNat).drop (0 : Int).toNat) rfl (by rw [ex_len1.1]; decide) (by rw [ex_len1.2]; decide) cQ aX aX aX (show z9 _ exD2 _ _ from fun Ad cd Ad2 cd2 => ?_)
        refine ⟨.inl dV, ?_⟩; refine aI ?_
        refine pZ 4 9 ?_ ?_
        · skip
          refine GW.ow rfl ?_; refine bK cQ fP rfl (fun bB => ?_)
          refine ⟨.inl dV, ?_⟩; refine aI ?_
          refine fN (fun w hs => hs.ints_stay [1] rfl (by intro x hx; simp at hx; subst hx; simp [dO]) cQ) ?_
          refine pZ 5 9 ?_ ?_
          · skip
            refine aT fA ?_; refine iH Ad cd Ad2 cd2 _ _ exD2 [1] (by rw [ex_len2.1]; decide) (by rw [ex_len2.2]; decide) cQ aX aX aX (iW exY 0 kB (fun Au cu Au2 cu2 => ?_))
            refine ⟨.inl dV, ?_⟩; refine aI ?_
            refine dW _ (List.Sublist.refl _) hP ?_
            all_goals (refine bY 6 eB ?_; ((refine aG ?_)); refine aI ?_)
            all_goals (refine bY 7 eB ?_; ((refine cD rfl rfl ?_)); refine aI ?_)
            all_goals (refine bY 8 eB ?_; ((refine cD rfl rfl ?_)); refine aI ?_)
            refine gE 9 ?_
            refine GW.ow rfl ?_; refine bL cW (fun bZ => ?_)
            refine ⟨.inl dV, ?_⟩; refine aI ?_
            refine fN (H' := .blk bZ [.slice none 0 0, .slice none 0 0] 51 :: .blk bZx [.slice Ax exX.bytes.length cx, .slice Ax2 exX.pending.length cx2] 51 :: .blk b8 [.slice A7 exD1.bytes.length c7, .slice A8 exD1.pending.length c8] 51 :: H) (R' := jH Au cu Au2 cu2 exY (jH Ad cd Ad2 cd2 exD2 (Sl (.slice (some ⟨bB, 0, none⟩) ([1] : List Int).length ([1] : List Int).length) ([1] : List Int) :: Sl (.slice A10 ((5 : Int).toNat - (0 : Int).toNat) c10) ((exO2.take (5 : Int).toNat).drop (0 : Int).toNat) :: jH Ax cx Ax2 cx2 exX (jH A7 c7 A8 c8 exD1 (Sl (.slice A9 6 c9) exO2 :: R))))) dV ?_
            refine dW _ (List.Sublist.refl _) hP ?_
            exact hG Ad cd Ad2 cd2 bB bZ Au cu Au2 cu2
          · skip
            refine GW.ow rfl ?_; refine bL cW (fun bZ => ?_)
            refine ⟨.inl dV, ?_⟩; refine aI ?_
            refine gE 5 ?_
            refine aT fA ?_; refine iH Ad cd Ad2 cd2 _ _ exD2 [1] (by rw [ex_len2.1]; decide) (by rw [ex_len2.2]; decide) cQ aX aX aX (iW exY 0 kB (fun Au cu Au2 cu2 => ?_))
            refine ⟨.inl dV, ?_⟩; refine aI ?_
            refine dW _ (List.Sublist.refl _) hP ?_
            all_goals (refine bY 6 eB ?_; ((refine aG ?_)); refine aI ?_)
            all_goals (refine bY 7 eB ?_; ((refine cD rfl rfl ?_)); refine aI ?_)
            all_goals (refine bY 8 eB ?_; ((refine cD rfl rfl ?_)); refine aI ?_)
            refine fN (H' := .blk bZ [.slice none 0 0, .slice none 0 0] 51 :: .blk bZx [.slice Ax exX.bytes.length cx, .slice Ax2 exX.pending.length cx2] 51 :: .blk b8 [.slice A7 exD1.bytes.length c7, .slice A8 exD1.pending.length c8] 51 :: H) (R' := jH Au cu Au2 cu2 exY (jH Ad cd Ad2 cd2 exD2 (Sl (.slice (some ⟨bB, 0, none⟩) ([1] : List Int).length ([1] : List Int).length) ([1] : List Int) :: Sl (.slice A10 ((5 : Int).toNat - (0 : Int).toNat) c10) ((exO2.take (5 : Int).toNat).drop (0 : Int).toNat) :: jH Ax cx Ax2 cx2 exX (jH A7 c7 A8 c8 exD1 (Sl (.slice A9 6 c9) exO2 :: R))))) dV ?_
            refine dW _ (List.Sublist.refl _) hP ?_
            exact hG Ad cd Ad2 cd2 bB bZ Au cu Au2 cu2
        · skip
          refine GW.ow rfl ?_; refine bL cW (fun bZ => ?_)
          refine ⟨.inl dV, ?_⟩; refine aI ?_
          refine gE 4 ?_
          refine GW.ow rfl ?_; refine bK cQ fP rfl (fun bB => ?_)
          refine ⟨.inl dV, ?_⟩; refine aI ?_
          refine fN (fun w hs => hs.ints_stay [1] rfl (by intro x hx; simp at hx; subst hx; simp [dO]) cQ) ?_
          refine gE 5 ?_
          refine aT fA ?_; refine iH Ad cd Ad2 cd2 _ _ exD2 [1] (by rw [ex_len2.1]; decide) (by rw [ex_len2.2]; decide) cQ aX aX aX (iW exY 0 kB (fun Au cu Au2 cu2 => ?_))
          refine ⟨.inl dV, ?_⟩; refine aI ?_
          refine dW _ (List.Sublist.refl _) hP ?_
          all_goals (refine bY 6 eB ?_; ((refine aG ?_)); refine aI ?_)
          all_goals (refine bY 7 eB ?_; ((refine cD rfl rfl ?_)); refine aI ?_)
          all_goals (refine bY 8 eB ?_; ((refine cD rfl rfl ?_)); refine aI ?_)
          refine fN (H' := .blk bZ [.slice none 0 0, .slice none 0 0] 51 :: .blk bZx [.slice Ax exX.bytes.length cx, .slice Ax2 exX.pending.length cx2] 51 :: .blk b8 [.slice A7 exD1.bytes.length c7, .slice A8 exD1.pending.length c8] 51 :: H) (R' := jH Au cu Au2 cu2 exY (jH Ad cd Ad2 cd2 exD2 (Sl (.slice (some ⟨bB, 0, none⟩) ([1] : List Int).length ([1] : List Int).length) ([1] : List Int) :: Sl (.slice A10 ((5 : Int).toNat - (0 : Int).toNat) c10) ((exO2.take (5 : Int).toNat).drop (0 : Int).toNat) :: jH Ax cx Ax2 cx2 exX (jH A7 c7 A8 c8 exD1 (Sl (.slice A9 6 c9) exO2 :: R))))) dV ?_
          refine dW _ (List.Sublist.refl _) hP ?_
          exact hG Ad cd Ad2 cd2 bB bZ Au cu Au2 cu2
      · skip
        refine GW.ow rfl ?_; refine bK cQ fP rfl (fun bB => ?_)
        refine ⟨.inl dV, ?_⟩; refine aI ?_
        refine fN (fun w hs => hs.ints_stay [1] rfl (by intro x hx; simp at hx; subst hx; simp [dO]) cQ) ?_
        refine pZ 3 9 ?_ ?_
        · skip
          refine aT fA ?_; refine lL A7 c7 A8 c8 A10 _ c10 exD1 ((exO2.take (5 : Int).toNat).drop (0 : Int).toNat) rfl (by rw [ex_len1.1]; decide) (by rw [ex_len1.2]; decide) cQ aX aX aX (show z9 _ exD2 _ _ from fun Ad cd Ad2 cd2 => ?_)
          refine ⟨.inl dV, ?_⟩; refine aI ?_
          refine pZ 5 9 ?_ ?_
          · skip
            refine aT fA ?_; refine iH Ad cd Ad2 cd2 _ _ exD2 [1] (by rw [ex_len2.1]; decide) (by rw [ex_len2.2]; decide) cQ aX aX aX (iW exY 0 kB (fun Au cu Au2 cu2 => ?_))
            refine ⟨.inl dV, ?_⟩; refine aI ?_
            refine dW _ (List.Sublist.refl _) hP ?_
            all_goals (refine bY 6 eB ?_; ((refine aG ?_)); refine aI ?_)
            all_goals (refine bY 7 eB ?_; ((refine cD rfl rfl ?_)); refine aI ?_)
            all_goals (refine bY 8 eB ?_; ((refine cD rfl rfl ?_)); refine aI ?_)
            refine gE 9 ?_
            refine GW.ow rfl ?_; refine bL cW (fun bZ => ?_)
            refine ⟨.inl dV, ?_⟩; refine aI ?_
            refine fN (H' := .blk bZ [.slice none 0 0, .slice none 0 0] 51 :: .blk bZx [.slice Ax exX.bytes.length cx, .slice Ax2 exX.pending.length cx2] 51 :: .blk b8 [.slice A7 exD1.bytes.length c7, .slice A8 exD1.pending.length c8] 51 :: H) (R' := jH Au cu Au2 cu2 exY (jH Ad cd Ad2 cd2 exD2 (Sl (.slice (some ⟨bB, 0, none⟩) ([1] : List Int).length ([1] : List Int).length) ([1] : List Int) :: Sl (.slice A10 ((5 : Int).toNat - (0 : Int).toNat) c10) ((exO2.take (5 : Int).toNat).drop (0 : Int).toNat) :: jH Ax cx Ax2 cx2 exX (jH A7 c7 A8 c8 exD1 (Sl (.slice A9 6 c9) exO2 :: R))))) dV ?_
            refine dW _ (List.Sublist.refl _) hP ?_
            exact hG Ad cd Ad2 cd2 bB bZ Au cu Au2 cu2
          · skip
            refine GW.ow rfl ?_; refine bL cW (fun bZ => ?_)
            refine ⟨.inl dV, ?_⟩; refine aI ?_
            refine gE 5 ?_
            refine aT fA ?_; refine iH Ad cd Ad2 cd2 _ _ exD2 [1] (by rw [ex_len2.1]; decide) (by rw [ex_len2.2]; decide) cQ aX aX aX (iW exY 0 kB (fun Au cu Au2 cu2 => ?_))
            refine ⟨.inl dV, ?_⟩; refine aI ?_
            refine dW _ (List.Sublist.refl _) hP ?_
            all_goals (refine bY 6 eB ?_; ((refine aG ?_)); refine aI ?_)
            all_goals (refine bY 7 eB ?_; ((refine cD rfl rfl ?_)); refine aI ?_)
            all_goals (refine bY 8 eB ?_; ((refine cD rfl rfl ?_)); refine aI ?_)
            refine fN (H' := .blk bZ [.slice none 0 0, .slice none 0 0] 51 :: .blk bZx [.slice Ax exX.bytes.length cx, .slice Ax2 exX.pending.length cx2] 51 :: .blk b8 [.slice A7 exD1.bytes.length c7, .slice A8 exD1.pending.length c8] 51 :: H) (R' := jH Au cu Au2 cu2 exY (jH Ad cd Ad2 cd2 exD2 (Sl (.slice (some ⟨bB, 0, none⟩) ([1] : List Int).length ([1] : List Int).length) ([1] : List Int) :: Sl (.slice A10 ((5 : Int).toNat - (0 : Int).toNat) c10) ((exO2.take (5 : Int).toNat).drop (0 : Int).toNat) :: jH Ax cx Ax2 cx2 exX (jH A7 c7 A8 c8 exD1 (Sl (.slice A9 6 c9) exO2 :: R))))) dV ?_
            refine dW _ (List.Sublist.refl _) hP ?_
            exact hG Ad cd Ad2 cd2 bB bZ Au cu Au2 cu2
        · skip
          refine GW.ow rfl ?_; refine bL cW (fun bZ => ?_)
          refine ⟨.inl dV, ?_⟩; refine aI ?_
          refine gE 3 ?_
          refine aT fA ?_; refine lL A7 c7 A8 c8 A10 _ c10 exD1 ((exO2.take (5 : Int).toNat).drop (0 : Int).toNat) rfl (by rw [ex_len1.1]; decide) (by rw [ex_len1.2]; decide) cQ aX aX aX (show z9 _ exD2 _ _ from fun Ad cd Ad2 cd2 => ?_)
          refine ⟨.inl dV, ?_⟩; refine aI ?_
          refine gE 5 ?_
          refine aT fA ?_; refine iH Ad cd Ad2 cd2 _ _ exD2 [1] (by rw [ex_len2.1]; decide) (by rw [ex_len2.2]; decide) cQ aX aX aX (iW exY 0 kB (fun Au cu Au2 cu2 => ?_))
          refine ⟨.inl dV, ?_⟩; refine aI ?_
          refine dW _ (List.Sublist.refl _) hP ?_
          all_goals (refine bY 6 eB ?_; ((refine aG ?_)); refine aI ?_)
          all_goals (refine bY 7 eB ?_; ((refine cD rfl rfl ?_)); refine aI ?_)
          all_goals (refine bY 8 eB ?_; ((refine cD rfl rfl ?_)); refine aI ?_)
          refine fN (H' := .blk bZ [.slice none 0 0, .slice none 0 0] 51 :: .blk bZx [.slice Ax exX.bytes.length cx, .slice Ax2 exX.pending.length cx2] 51 :: .blk b8 [.slice A7 exD1.bytes.length c7, .slice A8 exD1.pending.length c8] 51 :: H) (R' := jH Au cu Au2 cu2 exY (jH Ad cd Ad2 cd2 exD2 (Sl (.slice (some ⟨bB, 0, none⟩) ([1] : List Int).length ([1] : List Int).length) ([1] : List Int) :: Sl (.slice A10 ((5 : Int).toNat - (0 : Int).toNat) c10) ((exO2.take (5 : Int).toNat).drop (0 : Int).toNat) :: jH Ax cx Ax2 cx2 exX (jH A7 c7 A8 c8 exD1 (Sl (.slice A9 6 c9) exO2 :: R))))) dV ?_
          refine dW _ (List.Sublist.refl _) hP ?_
          exact hG Ad cd Ad2 cd2 bB bZ Au cu Au2 cu2
      · skip
        refine GW.ow rfl ?_; refine bL cW (fun bZ => ?_)
        refine ⟨.inl dV, ?_⟩; refine aI ?_
        refine pZ 3 4 ?_ ?_
        · skip
          refine aT fA ?_; refine lL A7 c7 A8 c8 A10 _ c10 exD1 ((exO2.take (5 : Int).toNat).drop (0 : Int).toNat) rfl (by rw [ex_len1.1]; decide) (by rw [ex_len1.2]; decide) cQ aX aX aX (show z9 _ exD2 _ _ from fun Ad cd Ad2 cd2 => ?_)
          refine ⟨.inl dV, ?_⟩; refine aI ?_
          refine gE 4 ?_
          refine GW.ow rfl ?_; refine bK cQ fP rfl (fun bB => ?_)
          refine ⟨.inl dV, ?_⟩; refine aI ?_
          refine fN (fun w hs => hs.ints_stay [1] rfl (by intro x hx; simp at hx; subst hx; simp [dO]) cQ) ?_
          refine gE 5 ?_
          refine aT fA ?_; refine iH Ad cd Ad2 cd2 _ _ exD2 [1] (by rw [ex_len2.1]; decide) (by rw [ex_len2.2]; decide) cQ aX aX aX (iW exY 0 kB (fun Au cu Au2 cu2 => ?_))
          refine ⟨.inl dV, ?_⟩; refine aI ?_
          refine dW _ (List.Sublist.refl _) hP ?_
          all_goals (refine bY 6 eB ?_; ((refine aG ?_)); refine aI ?_)
          all_goals (refine bY 7 eB ?_; ((refine cD rfl rfl ?_)); refine aI ?_)
          all_goals (refine bY 8 eB ?_; ((refine cD rfl rfl ?_)); refine aI ?_)
          refine fN (H' := .blk bZ [.slice none 0 0, .slice none 0 0] 51 :: .blk bZx [.slice Ax exX.bytes.length cx, .slice Ax2 exX.pending.length cx2] 51 :: .blk b8 [.slice A7 exD1.bytes.length c7, .slice A8 exD1.pending.length c8] 51 :: H) (R' := jH Au cu Au2 cu2 exY (jH Ad cd Ad2 cd2 exD2 (Sl (.slice (some ⟨bB, 0, none⟩) ([1] : List Int).length ([1] : List Int).length) ([1] : List Int) :: Sl (.slice A10 ((5 : Int).toNat - (0 : Int).toNat) c10) ((exO2.take (5 : Int).toNat).drop (0 : Int).toNat) :: jH Ax cx Ax2 cx2 exX (jH A7 c7 A8 c8 exD1 (Sl (.slice A9 6 c9) exO2 :: R))))) dV ?_
          refine dW _ (List.Sublist.refl _) hP ?_
          exact hG Ad cd Ad2 cd2 bB bZ Au cu Au2 cu2
        · skip
          refine GW.ow rfl ?_; refine bK cQ fP rfl (fun bB => ?_)
          refine ⟨.inl dV, ?_⟩; refine aI ?_
          refine fN (fun w hs => hs.ints_stay [1] rfl (by intro x hx; simp at hx; subst hx; simp [dO]) cQ) ?_
          refine gE 3 ?_
          refine aT fA ?_; refine lL A7 c7 A8 c8 A10 _ c10 exD1 ((exO2.take (5 : Int).toNat).drop (0 : Int).toNat) rfl (by rw [ex_len1.1]; decide) (by rw [ex_len1.2]; decide) cQ aX aX aX (show z9 _ exD2 _ _ from fun Ad cd Ad2 cd2 => ?_)
          refine ⟨.inl dV, ?_⟩; refine aI ?_
          refine gE 5 ?_
          refine aT fA ?_; refine iH Ad cd Ad2 cd2 _ _ exD2 [1] (by rw [ex_len2.1]; decide) (by rw [ex_len2.2]; decide) cQ aX aX aX (iW exY 0 kB (fun Au cu Au2 cu2 => ?_))
          refine ⟨.inl dV, ?_⟩; refine aI ?_
          refine dW _ (List.Sublist.refl _) hP ?_
          all_goals (refine bY 6 eB ?_; ((refine aG ?_)); refine aI ?_)
          all_goals (refine bY 7 eB ?_; ((refine cD rfl rfl ?_)); refine aI ?_)
          all_goals (refine bY 8 eB ?_; ((refine cD rfl rfl ?_)); refine aI ?_)
          refine fN (H' := .blk bZ [.slice none 0 0, .slice none 0 0] 51 :: .blk bZx [.slice Ax exX.bytes.length cx, .slice Ax2 exX.pending.length cx2] 51 :: .blk b8 [.slice A7 exD1.bytes.length c7, .slice A8 exD1.pending.length c8] 51 :: H) (R' := jH Au cu Au2 cu2 exY (jH Ad cd Ad2 cd2 exD2 (Sl (.slice (some ⟨bB, 0, none⟩) ([1] : List Int).length ([1] : List Int).length) ([1] : List Int) :: Sl (.slice A10 ((5 : Int).toNat - (0 : Int).toNat) c10) ((exO2.take (5 : Int).toNat).drop (0 : Int).toNat) :: jH Ax cx Ax2 cx2 exX (jH A7 c7 A8 c8 exD1 (Sl (.slice A9 6 c9) exO2 :: R))))) dV ?_
          refine dW _ (List.Sublist.refl _) hP ?_
          exact hG Ad cd Ad2 cd2 bB bZ Au cu Au2 cu2
    case hb16 =>
      intro Ad cd Ad2 cd2 bB bZy Ay cy Ay2 cy2
      refine dW _ (List.Sublist.refl _) hP ?_
      refine mY 10 ?_
      refine aN (i := 0) rfl cW rfl dT dB eK ?_
      refine ⟨.inl dV, ?_⟩
      refine aI ?_
      refine kN ?_
      all_goals ((refine bY 11 eB ?_; ((refine aY ?_)); refine aI ?_))
      all_goals refine iC ?_
      apply aD
      refine eJ (.blk bZy [.slice Ay exY.bytes.length cy, .slice Ay2 exY.pending.length cy2] 51 :: .blk bZx [.slice Ax exX.bytes.length cx, .slice Ax2 exX.pending.length cx2] 51 :: .blk b8 [.slice A7 exD1.bytes.length c7, .slice A8 exD1.pending.length c8] 51 :: H) (jH Ay cy Ay2 cy2 exY (jH Ax cx Ax2 cx2 exX (jH A7 c7 A8 c8 exD1 (Sl (.slice A9 6 c9) exO2 :: R)))) dV ?_
      repeat' (first | (refine dK rfl ?_; refine aT fA ?_; refine vT Ax cx Ax2 cx2 exX (by rw [ex_lenX.1]; decide) (by rw [ex_lenX.2]; decide) aX aX (yP [7] 0 ex_last0 (n := 1) rfl (fun Ap cp => ?_)); refine aB ?_) | (apply aF) | (apply aA) | (apply aH) | (apply aD) | (apply aP; exact rfl; ((first | refine aL (i := 0) rfl rfl rfl ?_ | refine aL (i := 1) rfl rfl rfl ?_)); refine aB ?_) | (refine aE rfl rfl ?_; ((first | refine aG ?_ | refine aY ?_ | refine cD rfl rfl ?_)); refine aB ?_))
      refine dK rfl ?_; refine aT fA ?_; refine vT Ay cy Ay2 cy2 exY (by rw [ex_lenY.1]; decide) (by rw [ex_lenY.2]; decide) aX aX (yP [1, 2, 3] 0 ex_last1 (n := 3) rfl (fun Aq cq => ?_)); refine aB ?_
      repeat' (first | (apply aU; exact rfl; refine fZ rfl rfl (fun _ => ?_) (fun h => absurd rfl h); refine aB ?_) | (refine aE rfl rfl ?_; refine fT (v := .slice _ 1 _) (xs := [7]) rfl rfl xW rfl cQ (fun b o => ?_); refine aB ?_) | (refine aE rfl rfl ?_; refine fT (v := .slice _ 3 _) (xs := [1, 2, 3]) rfl rfl xW rfl cQ (fun b o => ?_); refine aB ?_) | (apply aF) | (apply aA) | (apply bP) | (apply aH) | (apply aD) | (apply aP; exact rfl; ((refine bD rfl cL rfl ?_)); refine aB ?_) | (refine aE rfl rfl ?_; ((first | refine aG ?_ | refine aY ?_ | refine bX rfl eR ?_ | refine bS rfl ?_ | refine cD rfl rfl ?_)); refine aB ?_))
      exact aZ (.inl rfl) (dP rfl (bR rfl)) (cA H R dV k)
end Go.Proofs.YtggdljhmbckpmaaGreat
