/- The record at a place: walks. The records of a half, yielded: walks. The current records: walks. -/
import Derived.Test.YtggdljhmbckpmaaGreatFB
import Derived.Test.YtggdljhmbckpmaaGreatAM
import Derived.Test.YtggdljhmbckpmaaGreatAN
set_option linter.unusedVariables false
set_option linter.unusedSimpArgs false
namespace Go.Proofs.YtggdljhmbckpmaaGreat
open Go Go.RowKit
set_option maxRecDepth 100000
set_option maxHeartbeats 800000

theorem iW (xs : List UInt8) : eU xs < 4294967296 := by
  unfold eU four
  repeat' ((first | exact Nat.mod_lt _ (by decide) | exact Nat.lt_of_lt_of_le (UInt8.toNat_lt _) (by decide) | refine Nat.or_lt_two_pow (n := 32) ?_ ?_))
def Rc.zero : Rc := ⟨0, 0, 0, []⟩
/-- The record at a place, and whether it is right. -/
def iF (b : List UInt8) (at_ limit : Nat) : Rc × Bool :=
  if limit < at_ + 17 then (Rc.zero, false)
  else if b.getD at_ 0 ≠ 167 then (Rc.zero, false)
  else if eU (b.drop (at_ + 13)) ≠ lJ ((b.take (at_ + 13)).drop (at_ + 1)) then (Rc.zero, false)
  else if limit < at_ + 21 + eU (b.drop (at_ + 9)) then (Rc.zero, false)
  else
    let data := (b.take (at_ + 17 + eU (b.drop (at_ + 9)))).drop (at_ + 17)
    (⟨at_, eU (b.drop (at_ + 1)), eU (b.drop (at_ + 5)), data⟩, decide (eU (b.drop (at_ + 17 + eU (b.drop (at_ + 9)))) = lJ data))
def KRc (K : Value → List Hp → List MP → Prop) (r : Rc × Bool) (H : List Hp) (R : List MP) : Prop := ∀ A c, K (.tuple #[rcV A c r.1, .bool r.2]) H (Sl (.slice A r.1.data.length c) r.1.data :: R)
theorem mP {K : Value → List Hp → List MP → Prop} {r r' : Rc × Bool} {H : List Hp} {R : List MP} (e : r = r') (h : KRc K r H R) : KRc K r' H R := e ▸ h

theorem rI {w0 : World} {H : List Hp} {R : List MP} {K : Value → List Hp → List MP → Prop} (A0 : Option Addr) (c0 : Nat) (xs : List UInt8) (at_ limit : Nat) (hb : xs.length ≤ 600000) (hal : at_ ≤ limit) (hlb : limit ≤ xs.length)
    (hm : Sl (.slice A0 xs.length c0) xs ∈ R)
    (k : KRc K (iF xs at_ limit) H R) : CallsK Tryz.prog w0 149 #[.slice A0 xs.length c0, .int .i64 (at_ : Int), .int .i64 (limit : Int)] H R K := by
  refine bX Tryz.func149 rfl Tryz.ntmps149 eZ ?_
  repeat' (first | (apply aF) | (apply aA) | (apply bN) | (apply bE) | (apply aK; exact rfl) | (apply aI; exact rfl) | (apply aG) | (apply aD) | (apply bO) | (apply aP; exact rfl; ((first | refine aM (i := 1) rfl rfl rfl ?_ | refine aM (i := 2) rfl rfl rfl ?_ | refine aZ rfl cJ rfl ?_)); refine aB ?_) | (apply aU; exact rfl; ((refine eR rfl rfl (by omega) (by omega) ?_)); refine aB ?_) | (apply aU; exact rfl; ((first | refine bM rfl rfl (fun h => ?_) (fun h => ?_) | refine eL rfl rfl (fun h => ?_) (fun h => ?_))) <;> (refine aB ?_)) | (apply gL; exact rfl; ((refine kI eJ rfl aV (List.getElem?_eq_getElem (by omega)) (fun b o => ?_))); refine aB ?_) | (apply bD; exact rfl; ((refine aO (i := 0) rfl cW rfl (by rfl) (by simp) (by simp [Value.oneCell']) ?_)); refine aB ?_; refine cA ?_) | (refine aE rfl rfl ?_; ((first | refine aH ?_ | refine aX ?_ | refine bT rfl eJ ?_ | refine cI rfl eJ ?_ | refine cM gP gP ?_ | refine dN gI ?_)); refine aB ?_) | (refine cR rfl ?_; refine aB ?_) | (refine bG rfl rfl ?_; ((first | refine eB cW (fun b => ?_) | refine bK cW (fun b => ?_))); refine aB ?_))
  · refine bC (.inl rfl) (jM rfl (dG (i := 0) rfl rfl rfl) (bS rfl)) (cG H (Sl (.slice none 0 0) ([] : List UInt8) :: R) (fun w hs => (hs.weaken bU (fun _ h => h)).sl_nil UInt8) ?_)
    exact mP (r' := (Rc.zero, false)) (by unfold iF; rw [if_pos (by omega)]) k none 0
  · refine bC (.inl rfl) (jM rfl (dG (i := 0) rfl rfl rfl) (bS rfl)) (cG H (Sl (.slice none 0 0) ([] : List UInt8) :: R) (fun w hs => (hs.weaken bU cZ).sl_nil UInt8) ?_)
    refine mP (r' := (Rc.zero, false)) ?_ k none 0
    have hne : xs.getD at_ 0 ≠ 167 := by
      rw [nL xs at_ (by omega)]
      intro e; rw [e] at h; exact h rfl
    unfold iF; rw [if_neg (by omega), if_pos hne]
  have hlt : at_ + 17 ≤ limit := by omega
  have heq : ¬ (xs.getD at_ 0 ≠ 167) := by
    rw [nL xs at_ (by omega)]
    intro e
    exact e (UInt8.toNat_inj.1 (by show xs[at_].toNat = 167; omega))
  have h9 := iW (xs.drop (at_ + 9))
  repeat' (first | (refine dS rfl ?_; refine fO rfl fA ?_; refine mX 2 1 _ _ _ _ xs at_ 9 rfl rfl hb (by omega) aV ?_; refine aB ?_) | (refine aE rfl rfl ?_; refine jB rfl (Nat.le_trans (Nat.le_of_lt (iW _)) (by decide)) ?_; refine aB ?_) | (apply aF) | (apply aG) | (apply aD) | (refine aE rfl rfl ?_; ((refine aX ?_)); refine aB ?_))
  · skip
    refine dQ eT (by decide +kernel) (fun _ _ _ _ _ _ h => h) (List.Sublist.refl _) ?_
    all_goals ((refine bF 0 ?_; ((refine aH ?_)); refine aJ ?_))
    all_goals ((refine bF 2 ?_; ((refine aM (i := 2) rfl rfl rfl ?_)); refine aJ ?_))
    all_goals ((refine bF 3 ?_; ((refine aM (i := 1) rfl rfl rfl ?_)); refine aJ ?_))
    all_goals ((refine bF 4 ?_; ((refine bI rfl rfl (by omega) (by omega) ?_)); refine aJ ?_))
    all_goals ((refine bF 5 ?_; ((refine aM (i := 1) rfl rfl rfl ?_)); refine aJ ?_))
    all_goals ((refine bF 6 ?_; ((refine bI rfl rfl (by omega) (by omega) ?_)); refine aJ ?_))
    all_goals ((refine bF 7 ?_; ((refine fP rfl aV rfl rfl rfl rfl (by omega) (by omega) (by omega) (fun A8 c8 => ?_))); refine aJ ?_))
    -- left: [1, 8, 9, 10, 11, 12, 13, 14, 15, 16, 17]; ready: [1]: ['call']
    refine fN 1 ?_
    refine fO rfl fA ?_; refine mX 2 1 _ _ _ _ xs at_ 13 rfl rfl hb (by omega) aV ?_
    refine ⟨.inl (fun w hs => hs), ?_⟩; refine aJ ?_
    refine fN 8 ?_
    refine aY fA ?_; refine vZ _ _ _ ((xs.take ((at_ : Int) + 13).toNat).drop ((at_ : Int) + 1).toNat) (by simp; omega) (by simp; omega) aV ?_
    refine ⟨.inl (fun w hs => hs), ?_⟩; refine aJ ?_
    all_goals ((refine bF 9 ?_; ((refine eL rfl rfl (fun h => ?_) (fun h => ?_))) <;> (refine aJ ?_)))
    all_goals ((refine bF 10 ?_; ((refine aH ?_)); refine aJ ?_))
    all_goals (first | (refine bF 11 ?_; ((refine aH ?_)); refine aJ ?_) | (refine dH 11 (List.Sublist.refl _) ?_))
    all_goals (first | (refine bF 12 ?_; ((refine aH ?_)); refine aJ ?_) | (refine dH 12 (List.Sublist.refl _) ?_))
    all_goals (first | (refine bF 13 ?_; ((refine aM (i := 1) rfl rfl rfl ?_)); refine aJ ?_) | (refine dH 13 (List.Sublist.refl _) ?_))
    all_goals (first | (refine bF 14 ?_; ((refine eR rfl rfl (by omega) (by omega) ?_)); refine aJ ?_) | (refine dH 14 (List.Sublist.refl _) ?_))
    all_goals (first | (refine bF 15 ?_; ((refine eR rfl rfl (by omega) (by omega) ?_)); refine aJ ?_) | (refine dH 15 (List.Sublist.refl _) ?_))
    all_goals (first | (refine bF 16 ?_; ((refine fF rfl rfl (fun h => ?_) (fun h => ?_))) <;> (refine aJ ?_)) | (refine dH 16 (List.Sublist.refl _) ?_))
    all_goals ((refine bF 17 ?_; ((first | refine bT rfl eJ ?_ | refine cI rfl eJ ?_)); refine aJ ?_))
    all_goals refine gX ?_
    repeat' (first | (apply aF) | (apply aA) | (apply bN) | (apply bE) | (apply aK; exact rfl) | (apply aI; exact rfl) | (apply aG) | (apply aD) | (apply bO) | (apply bD; exact rfl; ((refine aO (i := 0) rfl cW rfl (by rfl) (by simp) (by simp [Value.oneCell']) ?_)); refine aB ?_; refine cA ?_) | (refine aE rfl rfl ?_; ((first | refine aX ?_ | refine dN gI ?_)); refine aB ?_))
    · refine bC (.inl rfl) (jM rfl (dG (i := 0) rfl rfl rfl) (bS rfl)) (cG H (Sl (.slice none 0 0) ([] : List UInt8) :: R) (fun w hs => (hs.weaken bU cZ).sl_nil UInt8) ?_)
      refine mP (r' := (Rc.zero, false)) ?_ k none 0
      have hne : eU (xs.drop (at_ + 13)) ≠ lJ ((xs.take (at_ + 13)).drop (at_ + 1)) := fun e => h (by exact_mod_cast e)
      unfold iF; rw [if_neg (by omega), if_neg heq, if_pos hne]
    · refine bC (.inl rfl) (jM rfl (dG (i := 0) rfl rfl rfl) (bS rfl)) (cG H (Sl (.slice none 0 0) ([] : List UInt8) :: R) (fun w hs => (hs.weaken bU cZ).sl_nil UInt8) ?_)
      refine mP (r' := (Rc.zero, false)) ?_ k none 0
      rename_i hs13
      have heq2 : ¬ (eU (xs.drop (at_ + 13)) ≠ lJ ((xs.take (at_ + 13)).drop (at_ + 1))) := fun e => e (by exact_mod_cast hs13)
      unfold iF; rw [if_neg (by omega), if_neg heq, if_neg heq2, if_pos (by omega)]
    rename_i hs13
    have heq2 : ¬ (eU (xs.drop (at_ + 13)) ≠ lJ ((xs.take (at_ + 13)).drop (at_ + 1))) := fun e => e (by exact_mod_cast hs13)
    have hn21 : at_ + 21 + eU (xs.drop (at_ + 9)) ≤ limit := by omega
    refine dQ eT (by decide +kernel) (fun _ _ _ _ _ _ h => h) (List.Sublist.refl _) ?_
    all_goals ((refine bF 0 ?_; ((refine aM (i := 1) rfl rfl rfl ?_)); refine aJ ?_))
    all_goals ((refine bF 1 ?_; ((refine aH ?_)); refine aJ ?_))
    all_goals ((refine bF 4 ?_; ((refine aH ?_)); refine aJ ?_))
    all_goals ((refine bF 7 ?_; ((refine aM (i := 2) rfl rfl rfl ?_)); refine aJ ?_))
    all_goals ((refine bF 8 ?_; ((refine aM (i := 1) rfl rfl rfl ?_)); refine aJ ?_))
    all_goals ((refine bF 9 ?_; ((refine bI rfl rfl (by omega) (by omega) ?_)); refine aJ ?_))
    all_goals ((refine bF 10 ?_; ((refine aM (i := 1) rfl rfl rfl ?_)); refine aJ ?_))
    all_goals ((refine bF 11 ?_; ((refine bI rfl rfl (by omega) (by omega) ?_)); refine aJ ?_))
    all_goals ((refine bF 12 ?_; ((refine aH ?_)); refine aJ ?_))
    all_goals ((refine bF 13 ?_; ((refine bI rfl rfl (by omega) (by omega) ?_)); refine aJ ?_))
    all_goals ((refine bF 14 ?_; ((refine fP rfl aV rfl rfl rfl rfl (by omega) (by omega) (by omega) (fun A9 c9 => ?_))); refine aJ ?_))
    -- left: [2, 3, 5, 6, 15, 16, 17]; ready: [2, 16]: ['call', 'alloc']
    refine cut1 (G := ?G) ?ha ?hb
    case ha =>
      intro hG
      refine nV 2 16 ?_ ?_
      · refine fO rfl fA ?_; refine mX 2 1 _ _ _ _ xs at_ 1 rfl rfl hb (by omega) aV ?_
        refine ⟨.inl (fun w hs => hs), ?_⟩; refine aJ ?_
        all_goals ((refine bF 3 ?_; ((refine jB rfl (Nat.le_trans (Nat.le_of_lt (iW _)) (by decide)) ?_)); refine aJ ?_))
        -- left: [5, 6, 15, 16, 17]; ready: [5, 16]: ['call', 'alloc']
        refine nV 5 16 ?_ ?_
        · refine fO rfl fA ?_; refine mX 2 1 _ _ _ _ xs at_ 5 rfl rfl hb (by omega) aV ?_
          refine ⟨.inl (fun w hs => hs), ?_⟩; refine aJ ?_
          all_goals ((refine bF 6 ?_; ((refine jB rfl (Nat.le_trans (Nat.le_of_lt (iW _)) (by decide)) ?_)); refine aJ ?_))
          all_goals ((refine bF 15 ?_; ((refine dN gI ?_)); refine aJ ?_))
          -- left: [16, 17]; ready: [16]: ['alloc']
          refine fN 16 ?_
          refine GW.ow rfl ?_; refine bK cW (fun b10 => ?_)
          refine ⟨.inl (fun w hs => hs.weaken (List.sublist_cons_self _ _) (fun p hp => hp)), ?_⟩; refine aJ ?_
          exact hG b10
        · refine GW.ow rfl ?_; refine bK cW (fun b10 => ?_)
          refine ⟨.inl (fun w hs => hs.weaken (List.sublist_cons_self _ _) (fun p hp => hp)), ?_⟩; refine aJ ?_
          refine fN 5 ?_
          refine fO rfl fA ?_; refine mX 3 2 _ _ _ _ xs at_ 5 rfl rfl hb (by omega) aV ?_
          refine ⟨.inl (fun w hs => hs.weaken (List.sublist_cons_self _ _) (fun p hp => hp)), ?_⟩; refine aJ ?_
          all_goals ((refine bR 6 (List.Sublist.cons _ (List.Sublist.refl _)) ?_; ((refine jB rfl (Nat.le_trans (Nat.le_of_lt (iW _)) (by decide)) ?_)); refine aJ ?_))
          all_goals ((refine bR 15 (List.Sublist.cons _ (List.Sublist.refl _)) ?_; ((refine dN gI ?_)); refine aJ ?_))
          -- left: [17]; ready: [17]: ['store']
          exact hG b10
      · refine GW.ow rfl ?_; refine bK cW (fun b10 => ?_)
        refine ⟨.inl (fun w hs => hs.weaken (List.sublist_cons_self _ _) (fun p hp => hp)), ?_⟩; refine aJ ?_
        refine fN 2 ?_
        refine fO rfl fA ?_; refine mX 3 2 _ _ _ _ xs at_ 1 rfl rfl hb (by omega) aV ?_
        refine ⟨.inl (fun w hs => hs.weaken (List.sublist_cons_self _ _) (fun p hp => hp)), ?_⟩; refine aJ ?_
        all_goals ((refine bR 3 (List.Sublist.cons _ (List.Sublist.refl _)) ?_; ((refine jB rfl (Nat.le_trans (Nat.le_of_lt (iW _)) (by decide)) ?_)); refine aJ ?_))
        -- left: [5, 6, 15, 17]; ready: [5]: ['call']
        refine fN 5 ?_
        refine fO rfl fA ?_; refine mX 3 2 _ _ _ _ xs at_ 5 rfl rfl hb (by omega) aV ?_
        refine ⟨.inl (fun w hs => hs.weaken (List.sublist_cons_self _ _) (fun p hp => hp)), ?_⟩; refine aJ ?_
        all_goals ((refine bR 6 (List.Sublist.cons _ (List.Sublist.refl _)) ?_; ((refine jB rfl (Nat.le_trans (Nat.le_of_lt (iW _)) (by decide)) ?_)); refine aJ ?_))
        all_goals ((refine bR 15 (List.Sublist.cons _ (List.Sublist.refl _)) ?_; ((refine dN gI ?_)); refine aJ ?_))
        -- left: [17]; ready: [17]: ['store']
        exact hG b10
    case hb =>
      intro b10
      refine lL 17 ?_
      refine aO (i := 0) rfl cW rfl (by rfl) (by simp) (by simp [Value.oneCell']) ?_
      refine ⟨.inl (fun w hs => hs.weaken (List.sublist_cons_self _ _) (fun p hp => hp)), ?_⟩
      refine aJ ?_
      refine jC ?_
      refine jO (by decide +kernel) ?_
      repeat' (first | (apply aF) | (apply aD))
      refine dQ eT (by decide +kernel) (fun _ _ _ _ _ _ h => h) (List.Sublist.cons_cons _ (List.Sublist.cons _ (List.Sublist.refl _))) ?_
      all_goals ((refine bR 0 (List.Sublist.cons_cons _ (List.Sublist.cons _ (List.Sublist.refl _))) ?_; ((refine aM (i := 0) rfl rfl rfl ?_)); refine aJ ?_))
      all_goals ((refine bR 1 (List.Sublist.cons_cons _ (List.Sublist.cons _ (List.Sublist.refl _))) ?_; ((refine aH ?_)); refine aJ ?_))
      all_goals ((refine bR 2 (List.Sublist.cons_cons _ (List.Sublist.cons _ (List.Sublist.refl _))) ?_; ((refine aH ?_)); refine aJ ?_))
      all_goals ((refine bR 3 (List.Sublist.cons_cons _ (List.Sublist.cons _ (List.Sublist.refl _))) ?_; ((refine bI rfl rfl (by omega) (by omega) ?_)); refine aJ ?_))
      all_goals ((refine bR 5 (List.Sublist.cons_cons _ (List.Sublist.cons _ (List.Sublist.refl _))) ?_; ((refine aC rfl ?_)); refine aJ ?_))
      all_goals ((refine bR 6 (List.Sublist.cons_cons _ (List.Sublist.cons _ (List.Sublist.refl _))) ?_; ((refine aM (i := 0) rfl rfl rfl ?_)); refine aJ ?_))
      -- left: [4, 7, 8, 9, 10]; ready: [4]: ['call']
      have hdl : ((xs.take ((at_ : Int) + 17 + (eU (xs.drop (at_ + 9)) : Int)).toNat).drop ((at_ : Int) + 17).toNat) = (xs.take (at_ + 17 + eU (xs.drop (at_ + 9)))).drop (at_ + 17) := by
        rw [show ((at_ : Int) + 17 + (eU (xs.drop (at_ + 9)) : Int)).toNat = at_ + 17 + eU (xs.drop (at_ + 9)) by omega, show ((at_ : Int) + 17).toNat = at_ + 17 by omega]
      have hdn : ((xs.take (at_ + 17 + eU (xs.drop (at_ + 9)))).drop (at_ + 17)).length = eU (xs.drop (at_ + 9)) := by simp; omega
      have hlen : ((at_ : Int) + 17 + (eU (xs.drop (at_ + 9)) : Int)).toNat - ((at_ : Int) + 17).toNat = eU (xs.drop (at_ + 9)) := by omega
      have hf : ∀ bb : Bool, bb = decide (eU (xs.drop (at_ + 17 + eU (xs.drop (at_ + 9)))) = lJ ((xs.take (at_ + 17 + eU (xs.drop (at_ + 9)))).drop (at_ + 17))) → iF xs at_ limit = (⟨at_, eU (xs.drop (at_ + 1)), eU (xs.drop (at_ + 5)), (xs.take (at_ + 17 + eU (xs.drop (at_ + 9)))).drop (at_ + 17)⟩, bb) := fun bb e => by
        unfold iF; rw [if_neg (by omega), if_neg heq, if_neg heq2, if_neg (by omega), e]
      refine fN 4 ?_
      refine fO rfl fA ?_; refine mX 3 2 _ _ _ _ xs at_ (17 + eU (xs.drop (at_ + 9))) rfl rfl hb (by omega) aV ?_
      refine ⟨.inl (fun w hs => hs.weaken bU cZ), ?_⟩; refine aJ ?_
      refine fN 7 ?_
      refine aY fA ?_; refine vZ _ _ _ ((xs.take ((at_ : Int) + 17 + (eU (xs.drop (at_ + 9)) : Int)).toNat).drop ((at_ : Int) + 17).toNat) (by rw [hdl, hdn]; omega) (by rw [hdl, hdn]; omega) aV ?_
      refine ⟨.inl (fun w hs => hs.weaken bU cZ), ?_⟩; refine aJ ?_
      all_goals ((refine bR 8 (List.Sublist.cons_cons _ (List.Sublist.cons _ (List.Sublist.refl _))) ?_; ((refine fS rfl rfl (fun h => ?_) (fun h => ?_))) <;> (refine aJ ?_)))
      -- left: [9, 10]; ready: [9]: ['store']
      all_goals
        refine lL 9 ?_
        refine aO (i := 1) rfl cW rfl (by rfl) (by simp) (by simp [Value.oneCell']) ?_
        refine ⟨.inl (fun w hs => hs.weaken (List.Sublist.cons_cons _ (List.Sublist.cons _ (List.Sublist.refl _))) (fun _ h => h)), ?_⟩; refine aJ ?_
        refine jC ?_
        all_goals ((refine bR 10 (List.Sublist.cons_cons _ (List.Sublist.cons _ (List.Sublist.refl _))) ?_; ((refine aX ?_)); refine aJ ?_))
        all_goals refine gX ?_
      repeat' (first | (apply bN) | (apply aD))
      · rw [hlen, hdl]
        refine bC (.inl rfl) (jM rfl (dG (i := 1) rfl rfl rfl) (bS rfl)) (cG H (Sl (.slice A9 (eU (xs.drop (at_ + 9))) c9) ((xs.take (at_ + 17 + eU (xs.drop (at_ + 9)))).drop (at_ + 17)) :: R) (fun w hs => hs.weaken bU cZ) ?_)
        have h' : eU (xs.drop (at_ + (17 + eU (xs.drop (at_ + 9))))) = lJ ((xs.take ((at_ : Int) + 17 + (eU (xs.drop (at_ + 9)) : Int)).toNat).drop ((at_ : Int) + 17).toNat) := by exact_mod_cast h
        rw [hdl, ← Nat.add_assoc] at h'
        have k' := mP (hf true (by rw [decide_eq_true h'])) k A9 c9
        simp only [rcV, hdn] at k'
        exact k'
      · rw [hlen, hdl]
        refine bC (.inl rfl) (jM rfl (dG (i := 1) rfl rfl rfl) (bS rfl)) (cG H (Sl (.slice A9 (eU (xs.drop (at_ + 9))) c9) ((xs.take (at_ + 17 + eU (xs.drop (at_ + 9)))).drop (at_ + 17)) :: R) (fun w hs => hs.weaken bU cZ) ?_)
        have h' : eU (xs.drop (at_ + (17 + eU (xs.drop (at_ + 9))))) ≠ lJ ((xs.take ((at_ : Int) + 17 + (eU (xs.drop (at_ + 9)) : Int)).toNat).drop ((at_ : Int) + 17).toNat) := fun e => h (by exact_mod_cast e)
        rw [hdl, ← Nat.add_assoc] at h'
        have k' := mP (hf false (by rw [decide_eq_false h'])) k A9 c9
        simp only [rcV, hdn] at k'
        exact k'
end Go.Proofs.YtggdljhmbckpmaaGreat
namespace Go.Proofs.YtggdljhmbckpmaaGreat
open Go Go.RowKit
set_option maxRecDepth 100000
set_option maxHeartbeats 800000

def Rc.ok (r : Rc) : Prop := r.stop ≤ 600000 ∧ r.epoch < 4294967296 ∧ r.seq < 4294967296
instance : Rep Rc where
  size := 4
  rd s cs x := ∃ A c, cs = [.int .i64 (x.at_ : Int), .int .i64 (x.epoch : Int), .int .i64 (x.seq : Int), .slice A x.data.length c] ∧ x.ok ∧ (Sl (.slice A x.data.length c) x.data).p s
  mono h hp := by obtain ⟨A, c, e, k, l⟩ := hp; exact ⟨A, c, e, k, (Sl _ _).mono _ _ h l⟩
  len hp := by obtain ⟨A, c, rfl, k⟩ := hp; rfl
  one hp := by obtain ⟨A, c, rfl, k⟩ := hp; simp [Value.oneCell']
instance : Unp Rc := ⟨Option Addr × Nat, fun x y => [.int .i64 (x.at_ : Int), .int .i64 (x.epoch : Int), .int .i64 (x.seq : Int), .slice y.1 x.data.length y.2], fun x _ => x.ok, fun x y => [Sl (.slice y.1 x.data.length y.2) x.data],
  fun {s cs' x} h => by
    obtain ⟨A, c, rfl, h2, h3⟩ := h
    exact ⟨(A, c), rfl, h2, fun p hp => by simp at hp; subst hp; exact h3⟩,
  fun {s x y} h h' => ⟨y.1, y.2, rfl, h, h' _ (by simp)⟩⟩
section
variable {P : Program} {w0 : World} {E : List Value} {H : List Hp} {R : List MP} {ty : TypeId} {K : Value → List MP → Prop}
theorem lQ {t e : TypeId} {x ix : Operand} {agg : Bool} {by_ : Nat} {z : Value} [h : TyU P t (.slice e)] [he : Ty P e agg 4 by_ z] {v : Value} {xs : List Rc} {k : IntKind} {i : Nat} {d : Rc} (hx : ev E x = v) (hix : ev E ix = .int k (i : Int)) (hm : Sl v xs ∈ R) (hd : xs[i]? = some d)
    (kk : ∀ b o A c, d.ok → K (.pointer (some ⟨b, o, none⟩)) (At b o [.int .i64 (d.at_ : Int), .int .i64 (d.epoch : Int), .int .i64 (d.seq : Int), .slice A d.data.length c] :: Sl (.slice A d.data.length c) d.data :: R)) : PW P w0 E (.indexAddr t x ix) ty H R K := dL hx hix hm rfl (by simpa using hd) (by omega) (fun b o (y : Option Addr × Nat) (hy : d.ok) => kk b o y.1 y.2 hy)
end

theorem xI {b : List UInt8} {at_ limit : Nat} (hl : limit ≤ 600000) (h : (iF b at_ limit).2 = true) : (iF b at_ limit).1.ok ∧ (iF b at_ limit).1.at_ = at_ ∧ (iF b at_ limit).1.stop ≤ limit ∧ at_ + 21 ≤ (iF b at_ limit).1.stop := by
  unfold iF at h ⊢
  split at h
  · cases h
  split at h
  · cases h
  split at h
  · cases h
  split at h
  · cases h
  rename_i h1 h2 h3 h4
  rw [if_neg h1, if_neg h2, if_neg h3, if_neg h4]
  have e : ((b.take (at_ + 17 + eU (b.drop (at_ + 9)))).drop (at_ + 17)).length ≤ eU (b.drop (at_ + 9)) := by simp; omega
  refine ⟨⟨?_, iW _, iW _⟩, rfl, ?_, ?_⟩ <;> simp only [Rc.stop] <;> omega

/-- The records from a place on. -/
def qQ (b : List UInt8) (limit : Nat) : Nat → Nat → Nat → Option Nat → List Rc
  | 0, _, _, _ => []
  | m + 1, at_, seq, ep =>
    if (iF b at_ limit).2 = true ∧ (iF b at_ limit).1.seq = seq ∧ (∀ e, ep = some e → (iF b at_ limit).1.epoch = e) then (iF b at_ limit).1 :: qQ b limit m (iF b at_ limit).1.stop (seq + 1) (some (iF b at_ limit).1.epoch) else []
def nR (b : List UInt8) (half : Nat) : List Rc := qQ b ((half + 1) * b.length / 2) (b.length + 1) (half * b.length / 2) 0 none
def epI : Option Nat → Int
  | none => -1
  | some e => e
theorem epI_ge {ep : Option Nat} (h : ¬ epI ep ≥ 0) : ep = none := by
  cases ep with
  | none => rfl
  | some e => exact absurd (by simp [epI]) h
theorem epI_eq {ep : Option Nat} {r : Nat} (h : (r : Int) = epI ep) : ∀ e, ep = some e → r = e := by
  rintro e rfl
  have : (r : Int) = (e : Int) := h
  omega
theorem epI_ne {ep : Option Nat} {r : Nat} (h0 : epI ep ≥ 0) (h : ¬ (r : Int) = epI ep) : ¬ ∀ e, ep = some e → r = e := fun hc => by
  cases ep with
  | none => simp [epI] at h0
  | some e => exact h (by rw [hc e rfl]; rfl)
theorem sZ {b : List UInt8} {limit m at_ seq : Nat} {ep : Option Nat} (h : ¬ ((iF b at_ limit).2 = true ∧ (iF b at_ limit).1.seq = seq ∧ (∀ e, ep = some e → (iF b at_ limit).1.epoch = e))) : qQ b limit m at_ seq ep = [] := by
  cases m with
  | zero => rfl
  | succ m => rw [qQ, if_neg h]
theorem zL {b : List UInt8} {limit m at_ seq : Nat} {ep : Option Nat} (hm : 0 < m) (h : (iF b at_ limit).2 = true ∧ (iF b at_ limit).1.seq = seq ∧ (∀ e, ep = some e → (iF b at_ limit).1.epoch = e)) : qQ b limit m at_ seq ep = (iF b at_ limit).1 :: qQ b limit (m - 1) (iF b at_ limit).1.stop (seq + 1) (some (iF b at_ limit).1.epoch) := by
  obtain ⟨m, rfl⟩ : ∃ k, m = k + 1 := ⟨m - 1, by omega⟩
  rw [qQ, if_pos h]; rfl

theorem recs1_k {w0 : World} {H : List Hp} {R : List MP} {K : Value → List Hp → List MP → Prop} (l p q b1 b2 : Nat) (A : Option Addr) (c : Nat) (xs : List UInt8) (half : Nat) (hh : half ≤ 1) (hb : xs.length ≤ 600000) (I : List Rc → List Hp → List MP → Prop)
    (hI : ∀ pre H R, I pre H R → H[p]? = some (.blk b1 [.int .i64 (half : Int)] 3) ∧ H[q]? = some (.blk b2 [.slice A xs.length c] 33) ∧ Sl (.slice A xs.length c) xs ∈ R)
    (hmono : ∀ pre H R R', I pre H R → (∀ z ∈ R, z ∈ R') → I pre H R')
    (hy : ∀ pre (x : Rc) A' c' H R, I pre H R → pre.length ≤ 600000 → x.ok → Sl (.slice A' x.data.length c') x.data ∈ R → YK Tryz.prog w0 l (rcV A' c' x) H R (fun v H' R' => v = .bool true ∧ I (pre ++ [x]) H' R' ∧ ∀ z ∈ R, z ∈ R'))
    (h0 : I [] H R)
    (k : ∀ H' R', I (nR xs half) H' R' → K (.tuple #[]) H' R') : CallsK Tryz.prog w0 148 #[.func (.yield l) #[] #[], .pointer (some ⟨b1, 0, none⟩), .pointer (some ⟨b2, 0, none⟩)] H R K := by
  obtain ⟨hi, hj, hm⟩ := hI _ _ _ h0
  have hp1 : 0 ≤ (half : Int) * (xs.length : Int) ∧ (half : Int) * (xs.length : Int) ≤ 600000 := by
    rcases (show half = 0 ∨ half = 1 by omega) with rfl | rfl <;> simp <;> omega
  have hp2 : 0 ≤ ((half : Int) + 1) * (xs.length : Int) ∧ ((half : Int) + 1) * (xs.length : Int) ≤ 1200000 := by
    rcases (show half = 0 ∨ half = 1 by omega) with rfl | rfl <;> simp <;> omega
  have hlim : (half + 1) * xs.length / 2 ≤ xs.length ∧ half * xs.length / 2 ≤ (half + 1) * xs.length / 2 := by
    rcases (show half = 0 ∨ half = 1 by omega) with rfl | rfl <;> simp <;> omega
  refine bX Tryz.func148 rfl Tryz.ntmps148 eZ ?_
  apply aF
  refine dQ eT (by decide +kernel) (fun _ _ _ _ _ _ h => h) (List.Sublist.refl _) ?_
  all_goals ((refine bF 0 ?_; ((refine aM (i := p) rfl hi rfl ?_)); refine aJ ?_))
  all_goals ((refine bF 1 ?_; ((refine aM (i := q) rfl hj rfl ?_)); refine aJ ?_))
  all_goals ((refine bF 2 ?_; ((refine bQ rfl ?_)); refine aJ ?_))
  all_goals ((refine bF 3 ?_; ((refine iA rfl rfl (by omega) (by omega) ?_)); refine aJ ?_))
  all_goals ((refine bF 4 ?_; ((refine mE rfl rfl (by omega) (by omega) (by omega) ?_)); refine aJ ?_))
  all_goals ((refine bF 5 ?_; ((refine aM (i := p) rfl hi rfl ?_)); refine aJ ?_))
  all_goals ((refine bF 6 ?_; ((refine bI rfl rfl (by omega) (by omega) ?_)); refine aJ ?_))
  all_goals ((refine bF 7 ?_; ((refine aM (i := q) rfl hj rfl ?_)); refine aJ ?_))
  all_goals ((refine bF 8 ?_; ((refine bQ rfl ?_)); refine aJ ?_))
  all_goals ((refine bF 9 ?_; ((refine iA rfl rfl (by omega) (by omega) ?_)); refine aJ ?_))
  all_goals ((refine bF 10 ?_; ((refine mE rfl rfl (by omega) (by omega) (by omega) ?_)); refine aJ ?_))
  all_goals ((refine bF 11 ?_; ((refine aX ?_)); refine aJ ?_))
  all_goals ((refine bF 12 ?_; ((refine aX ?_)); refine aJ ?_))
  all_goals refine gX ?_
  repeat' (first | (apply aF) | (apply aA) | (apply aT) | (apply aG) | (apply aD) | (refine aE rfl rfl ?_; ((refine aX ?_)); refine aB ?_))
  generalize hL : (half + 1) * xs.length / 2 = limit at hlim
  have hL' : ((half : Int) + 1) * (xs.length : Int) / 2 = (limit : Int) := by rw [← hL]; push_cast; rfl
  rw [hL']
  refine cK [4, 6, 7, 8, 9, 21, 22, 23, 24, 25, 26, 27, 28, 29, 30, 31, 32, 33, 34, 35, 36, 37, 38, 39, 40, 41, 42, 43, 44, 45, 46, 47, 48, 49, 50, 51, 52, 53, 54, 55, 56, 57] (fun m j H' R' => ∃ pre at_ ep, I pre H' R' ∧ j 4 = .int .i64 ((at_ : Nat) : Int) ∧ j 6 = .int .i64 (epI ep) ∧ j 7 = .int .i64 ((pre.length : Nat) : Int) ∧ at_ ≤ limit ∧ limit < at_ + m ∧ pre.length ≤ at_ ∧ (∀ e, ep = some e → e < 4294967296) ∧ pre ++ qQ xs limit m at_ pre.length ep = nR xs half) (xs.length + 1) eE ⟨[], half * xs.length / 2, none, h0, ?_, rfl, rfl, by omega, by omega, Nat.zero_le _, (fun e he => by cases he), by rw [← hL]; rfl⟩ ?_
  · show Value.int .i64 _ = _
    refine congrArg _ ?_
    push_cast; rfl
  rintro m j H' R' ⟨pre, at_, ep, hIp, h4, h6, h7, hal, hlm, hpl, hep, hrec⟩
  refine cQ (by simp only [dX, List.foldl_cons, List.foldl_nil, List.set_cons_succ, List.set_cons_zero, h4, h6, h7]; rfl) ?_
  obtain ⟨hi', hj', hm'⟩ := hI _ _ _ hIp
  have HR := Go.Lib.hid hrec
  have HE := Go.Lib.hid hep
  clear hrec hep
  obtain ⟨⟨r, is⟩, hra⟩ : ∃ x, iF xs at_ limit = x := ⟨_, rfl⟩
  have hok := @xI xs at_ limit (by omega)
  rw [hra] at hok
  simp only at hok
  have hfin : ∀ H2 R2, I pre H2 R2 → qQ xs limit m at_ pre.length ep = [] → K (.tuple #[]) H2 R2 := fun H2 R2 h1 h2 => by
    have := HR.out
    rw [h2, List.append_nil] at this
    exact k _ _ (this ▸ h1)
  cases is
  · skip
    repeat' (first | (refine aE rfl rfl ?_; refine aM (i := q) rfl hj' rfl ?_; refine aB ?_) | (refine dS rfl ?_; refine aY fA ?_; refine rI A c xs at_ limit hb hal (by omega) hm' (mP hra.symm (fun A' c' => ?_)); dsimp only; refine aB ?_) | (apply aF) | (apply aA) | (apply aT) | (apply bN) | (apply aK; exact rfl) | (apply aG) | (apply aD) | (apply bO) | (apply dO) | (apply bD; exact rfl; ((refine aO (i := 0) rfl cW rfl (by rfl) (by simp) (by simp [Value.oneCell']) ?_)); refine aB ?_; refine cA ?_) | (refine aE rfl rfl ?_; ((first | refine aH ?_ | refine aX ?_ | refine bT rfl eJ ?_ | refine cD rfl rfl ?_ | refine dE rfl ?_)); refine aB ?_) | (refine cR rfl ?_; refine aB ?_) | (refine bG rfl rfl ?_; ((refine bK cW (fun b => ?_))); refine aB ?_))
    refine bC (.inl rfl) (fV rfl) (cG H' R' (fun w hs => hs.weaken bU cZ) (hfin _ _ hIp (sZ (by rw [hra]; simp))))
  · obtain ⟨hrok, hrat, hrs, hrs2⟩ := hok rfl
    repeat' (first | (refine aE rfl rfl ?_; refine aM (i := q) rfl hj' rfl ?_; refine aB ?_) | (refine dS rfl ?_; refine aY fA ?_; refine rI A c xs at_ limit hb hal (by omega) hm' (mP hra.symm (fun A' c' => ?_)); dsimp only; refine aB ?_) | (apply aF) | (apply aA) | (apply aT) | (apply bN) | (apply aK; exact rfl) | (apply aG) | (apply aD) | (apply bO) | (apply dO) | (apply aP; exact rfl; ((refine aM (i := 0) rfl rfl rfl ?_)); refine aB ?_) | (apply aU; exact rfl; ((first | refine jJ rfl rfl (fun h => ?_) (fun h => ?_) | refine eL rfl rfl (fun h => ?_) (fun h => ?_))) <;> (refine aB ?_)) | (apply bD; exact rfl; ((refine aO (i := 0) rfl cW rfl (by rfl) (by simp) (by simp [Value.oneCell']) ?_)); refine aB ?_; refine cA ?_) | (refine aE rfl rfl ?_; ((first | refine aH ?_ | refine aX ?_ | refine bT rfl eJ ?_ | refine cI rfl eJ ?_ | refine aC rfl ?_ | refine cD rfl rfl ?_ | refine dE rfl ?_)); refine aB ?_) | (refine cR rfl ?_; refine aB ?_) | (refine bG rfl rfl ?_; ((refine bK cW (fun b => ?_))); refine aB ?_))
    · refine bC (.inl rfl) (fV rfl) (cG H' (Sl (Value.slice A' r.data.length c') r.data :: R') (fun w hs => hs.weaken bU cZ) (hfin _ _ (hmono _ _ _ _ hIp cZ) (sZ (by rw [hra]; intro hc; have := hc.2.1; simp only at this; omega))))
    · refine bC (.inl rfl) (fV rfl) (cG H' (Sl (Value.slice A' r.data.length c') r.data :: R') (fun w hs => hs.weaken bU cZ) (hfin _ _ (hmono _ _ _ _ hIp cZ) (sZ (by rw [hra]; intro hc; exact epI_ne (by assumption) (by assumption) hc.2.2))))
    all_goals
      have hcond : (iF xs at_ limit).2 = true ∧ (iF xs at_ limit).1.seq = pre.length ∧ (∀ e, ep = some e → (iF xs at_ limit).1.epoch = e) := by
        rw [hra]
        refine ⟨rfl, by simp only; omega, ?_⟩
        (first | exact epI_eq (by assumption) | (intro e he; have := epI_ge (ep := ep) (by assumption); rw [this] at he; cases he))
      have HC := Go.Lib.hid hcond
      clear hcond
      refine zR 0 rfl ?_
      refine cA ?_
      refine dS rfl ?_
      refine zT rfl rfl (aA8 (hy pre r A' c' H' _ (hmono _ _ _ _ hIp cZ) (by omega) hrok aV) ?_)
      rintro v H2 R2 ⟨rfl, hI2, hR2⟩
      refine aB ?_
      have hat : At b 0 [.int .i64 (r.at_ : Int), .int .i64 (r.epoch : Int), .int .i64 (r.seq : Int), .slice A' r.data.length c'] ∈ R2 := hR2 _ aV
      clear hR2
      repeat' (first | (apply bE) | (apply aI; exact rfl) | (apply aG) | (apply aD) | (refine aE rfl rfl ?_; ((first | refine cI rfl eJ ?_ | refine dE rfl ?_)); refine aB ?_))
      refine dQ eT (by decide +kernel) (fun _ _ _ _ _ _ h => h) (List.Sublist.refl _) ?_
      all_goals ((refine bF 0 ?_; ((refine aC rfl ?_)); refine aJ ?_))
      all_goals ((refine bF 1 ?_; ((refine aQ rfl hat rfl ?_)); refine aJ ?_))
      all_goals ((refine bF 2 ?_; ((refine aZ rfl hat rfl ?_)); refine aJ ?_))
      -- left: [3, 4, 5]; ready: [3]: ['call']
      refine fN 3 ?_
      refine aY fA ?_; refine end_k A' c' r (by have := hrok.1; omega) ?_
      refine ⟨.inl (fun w hs => hs.weaken bU cZ), ?_⟩; refine aJ ?_
      all_goals ((refine bF 4 ?_; ((refine aX ?_)); refine aJ ?_))
      all_goals ((refine bF 5 ?_; ((refine aX ?_)); refine aJ ?_))
      all_goals refine gX ?_
      repeat' (first | (apply aA) | (apply aG) | (apply aD) | (apply bP) | (apply aU; exact rfl; ((refine bI rfl rfl (by omega) (by omega) ?_)); refine aB ?_) | (refine aE rfl rfl ?_; ((first | refine aH ?_ | refine aX ?_)); refine aB ?_))
      refine cE (m - 1) H2 R2 (by omega) eE ⟨pre ++ [r], r.stop, some r.epoch, hI2, rfl, rfl, ?_, by omega, by omega, ?_, ?_, ?_⟩ (fun w hs => hs.weaken bU cZ)
      · simp
      · simp; omega
      · intro e he; cases he; exact hrok.2.1
      · rw [← HR.out, zL (by omega) HC.out, hra]; simp
end Go.Proofs.YtggdljhmbckpmaaGreat
namespace Go.Proofs.YtggdljhmbckpmaaGreat
open Go Go.RowKit
set_option maxRecDepth 100000
set_option maxHeartbeats 800000

theorem j7 {w0 : World} {H : List Hp} {R : List MP} {K : Value → List Hp → List MP → Prop} (v : Value) (half : Int)
    (k : ∀ b1 b2, K (.func (.func 148) #[] #[.pointer (some ⟨b1, 0, none⟩), .pointer (some ⟨b2, 0, none⟩)]) (.blk b1 [.int .i64 half] 3 :: .blk b2 [v] 33 :: H) R) (hv : v.cells = #[v]) : CallsK Tryz.prog w0 113 #[v, .int .i64 half] H R K := by
  refine bX Tryz.func113 rfl Tryz.ntmps113 eZ ?_
  repeat' (first | (refine bG rfl rfl ?_; refine eB (cs := [v]) hv (fun b => ?_); refine aB ?_) | (apply aF) | (apply aA) | (apply bN) | (apply aG) | (apply aD) | (refine aE rfl rfl ?_; ((first | refine aX ?_ | refine cM gP gP ?_)); refine aB ?_) | (refine bG rfl rfl ?_; ((refine eB cW (fun b => ?_))); refine aB ?_))
  exact bC (.inl rfl) (dM rfl (bS rfl)) (cG _ R (fun _ h => h) (k _ _))

/-- The records of the halves ahead of number h, and which half's they are. -/
def lP (xs : List UInt8) : Nat → List Rc × Nat
  | 0 => ([], 0)
  | h + 1 => if 0 < (nR xs h).length ∧ ((lP xs h).1.length = 0 ∨ ((lP xs h).1.getD 0 Rc.zero).epoch < ((nR xs h).getD 0 Rc.zero).epoch) then (nR xs h, h) else lP xs h
def kG (xs : List UInt8) : List Rc × Nat := lP xs 2
theorem qY (xs : List Rc) (h : 0 < xs.length) : xs.getD 0 Rc.zero = xs[0] := by simp [List.getD, h]

section
variable {P : Program} {w0 : World} {E : List Value} {H : List Hp} {R : List MP} {ty : TypeId} {K : Value → List MP → Prop}
theorem oW {t e : TypeId} {x ix : Operand} {agg : Bool} {by_ : Nat} {z : Value} [h : TyU P t (.slice e)] [he : Ty P e agg 4 by_ z] {v : Value} {xs : List Rc} {k : IntKind} {d : Rc} (hx : ev E x = v) (hix : ev E ix = .int k 0) (hm : Sl v xs ∈ R) (hd : xs[0]? = some d)
    (kk : ∀ b o A c, d.ok → K (.pointer (some ⟨b, o, none⟩)) (At b o [.int .i64 (d.at_ : Int), .int .i64 (d.epoch : Int), .int .i64 (d.seq : Int), .slice A d.data.length c] :: Sl (.slice A d.data.length c) d.data :: R)) : PW P w0 E (.indexAddr t x ix) ty H R K := dL hx hix hm rfl (by simpa using hd) (by omega) (fun b o (y : Option Addr × Nat) (hy : d.ok) => kk b o y.1 y.2 hy)
end
def mk (d : Nat) : Deferred := ⟨.collected d, #[]⟩
def s7 (d : Nat) : Hp := .obj d (.deferred (some []))
theorem vA {P : Program} {w0 : World} {fn : Func} {K : Value → List Hp → List MP → Prop} {E : List Value} {H : List Hp} {R : List MP} {v : Value} (hr : ∀ w, S w0 w H R → (results fn E.toArray).run P w = .ok v w) (H' : List Hp) (R' : List MP) (hw : ∀ w, S w0 w H R → S w0 w H' R') (hk : K v H' R') :
    ∀ (ds : List Nat), LV P w0 fn K (ds.map mk) E (ds.map s7 ++ H) R
  | [] => LV_nil hr H' R' hw hk
  | d :: ds => by
    refine LV_mark (i := 0) rfl ?_
    have ih := vA hr H' R' hw hk ds
    unfold LV at ih ⊢
    intro w hs
    exact ih w (hs.weaken (List.sublist_cons_self _ _) (fun _ h => h))

theorem qJ {F : Fence} {n : Nat} {P : Program} {fn : Func} {Rp : Ending → World → Prop} {t t' : Array Value} {c : List PanicEntry} : ∀ (ds : List Nat) (w : World), LeavesInM F n P fn t Rp (ds.map mk) (.panicking c) w → LeavesInM F n P fn t' Rp (ds.map mk) (.panicking c) w
  | [], w, h => h
  | d :: ds, w, h => by
    obtain ⟨h1, h2⟩ := h
    refine ⟨h1, ?_⟩
    rcases h2 with ⟨r, w', e1, e2, e3⟩ | ⟨_, fv, cap, f, args, e1, _⟩
    · exact .inl ⟨r, w', e1, e2, qJ ds w' e3⟩
    · cases e1
theorem zI {F : Fence} {n : Nat} {P : Program} {fn : Func} {Rp : Ending → World → Prop} (ds : List Nat) {p : Tmp → Prop} (c : List PanicEntry) (E : List Value) (e : Tmp) (v : Value) (w : World) (_ : p e) (h : bodyPostM F n P fn Rp (.panic c) (iK (dP E (some e) v) (ds.map mk)) w) : bodyPostM F n P fn Rp (.panic c) (iK E (ds.map mk)) w := qJ ds w h
theorem zA {w0 : World} {H : List Hp} {R : List MP} {K : Value → List Hp → List MP → Prop} (A : Option Addr) (c : Nat) (xs : List UInt8) (hb : xs.length ≤ 600000) (hm : Sl (.slice A xs.length c) xs ∈ R)
    (k : ∀ A' c', K (.tuple #[.slice A' (kG xs).1.length c', .int .i64 ((kG xs).2 : Int)]) H (Sl (.slice A' (kG xs).1.length c') (kG xs).1 :: R)) : CallsK Tryz.prog w0 55 #[.slice A xs.length c] H R K := by
  refine nF Tryz.func55 rfl Tryz.ntmps55 eZ ?_
  repeat' (first | (apply aF) | (apply aA) | (apply aT) | (apply aG) | (apply aD) | (refine aE rfl rfl ?_; ((first | refine aH ?_ | refine aX ?_)); refine aB ?_))
  refine rV (Sl (.slice none 0 0) ([] : List Rc)) (fun s _ => kN Rc s) ?_
  refine yL [2, 3, 4, 5, 6, 7, 8, 9, 10, 11, 12, 14, 15, 16, 17, 18, 19, 20, 21, 22, 23, 24, 25, 26, 27, 28, 29, 30, 31, 32, 33, 34, 35, 36, 37, 38, 39] (fun m D' j H' R' => ∃ (h : Nat) (A' : Option Addr) (c' : Nat) (ds : List Nat), h + m = 2 ∧ D' = ds.map mk ∧ j 7 = .int .i64 (h : Int) ∧ j 2 = .slice A' (lP xs h).1.length c' ∧ j 3 = .int .i64 ((lP xs h).2 : Int) ∧ H' = ds.map s7 ++ H ∧ Sl (.slice A' (lP xs h).1.length c') (lP xs h).1 ∈ R' ∧ ∀ p ∈ R, p ∈ R') 2
    eE ⟨0, none, 0, [], rfl, rfl, rfl, rfl, rfl, rfl, aV, fun p hp => List.mem_cons_of_mem _ hp⟩ ?_
  rintro m D' j H' R' ⟨hn, A', c', ds, hhm, hD, h7, h2, h3, hH, hm2, hR⟩
  subst hD hH
  refine cQ (by simp only [dX, List.foldl_cons, List.foldl_nil, List.set_cons_succ, List.set_cons_zero, h7, h2, h3]; rfl) ?_
  have hm3 : Sl (.slice A xs.length c) xs ∈ R' := hR _ hm
  repeat' (first | (refine dS rfl ?_; refine aY fA ?_; refine j7 _ _ (fun b1 b2 => ?_) rfl; refine aB ?_) | (apply aF) | (apply aA) | (apply aT) | (apply bN) | (apply bE) | (apply bV) | (apply aK; exact rfl) | (apply aI; exact rfl) | (apply aG) | (apply aD) | (apply aS) | (apply aR) | (apply aU; exact rfl; ((refine bM rfl rfl (fun h => ?_) (fun h => ?_))) <;> (refine aB ?_)) | (refine aE rfl rfl ?_; ((first | refine aH ?_ | refine aX ?_)); refine aB ?_) | (refine bG rfl rfl ?_; ((refine bK cW (fun b => ?_))); refine aB ?_))
  · revert b
    intro b5
    refine mZ 124 4 ?_
    refine tB (lb := [.pointer (some ⟨b1, 0, none⟩), .pointer (some ⟨b2, 0, none⟩)]) rfl (fun l d fn => ?_)
    generalize hrec : ({ state := .ready, pending := none, fn := fn, tmps := _, params := _, assign := _, body := _, defers := d } : Loop) = rec
    refine gW (Cx [] ([] : List Rc)) (fun s _ => fT s) ?_
    refine recs1_k l 3 4 b1 b2 A c xs hn (by omega) hb (fun pre H2 R2 => ∃ v cs, H2 = .obj l (.loop rec) :: .obj d (.deferred (some [])) :: .row v 124 4 pre.length cs :: .blk b1 [.int .i64 (hn : Int)] 3 :: .blk b2 [.slice A xs.length c] 33 :: .blk b5 [v] 120 :: (ds.map s7 ++ H) ∧ Cx cs pre ∈ R2 ∧ ∀ p ∈ R', p ∈ R2) ?_ ?_ ?_ ⟨_, [], rfl, aV, fun p hp => List.mem_cons_of_mem _ hp⟩ ?_
    · rintro pre H2 R2 ⟨v, cs, rfl, hcx, hR2⟩
      exact ⟨rfl, rfl, hR2 _ hm3⟩
    · rintro pre H2 R2 R3 ⟨v, cs, rfl, hcx, hR2⟩ hsub
      exact ⟨v, cs, rfl, hsub _ hcx, fun p hp => hsub _ (hR2 p hp)⟩
    · rintro pre x A1 c1 H2 R2 ⟨v, cs, rfl, hcx, hR2⟩ hpl hxok hsl
      refine r7 (i := 0) rfl (by rw [← hrec]) (by rw [← hrec]) ?_
      rw [show rec.assign = _ from (by rw [← hrec]), show rec.body = _ from (by rw [← hrec])]
      repeat' (first | (apply aA) | (apply aG) | (apply bD; exact rfl; ((refine aO (i := 0) rfl cW rfl (by rfl) (by simp) (by simp [Value.oneCell']) ?_)); refine aB ?_; refine cA ?_) | (refine bG rfl rfl ?_; ((refine bK cW (fun b => ?_))); refine aB ?_))
      refine zJ (i := 1) rfl (by rw [← hrec]) ?_
      refine iI rZ ?_
      repeat' (first | (refine aE rfl rfl ?_; refine aM (i := 6) rfl rfl rfl ?_; refine aB ?_) | (apply aA) | (apply aT) | (apply aP; exact rfl; ((refine aM (i := 0) rfl rfl rfl ?_)); refine aB ?_) | (refine bG rfl rfl ?_; ((refine bH (by decide) fD rfl (fun b => ?_))); refine aB ?_))
      refine bG rfl rfl ?_
      refine cY 4 0 rfl rfl rfl rfl (by decide) rfl (by simp [Value.oneCell']) (by omega) (by omega) (fun v' => ?_)
      refine aB ?_; refine cA ?_
      refine gA 4 rfl (fun A6 c6 hv => ?_); subst hv
      refine iG (Cx (cs ++ [.int .i64 (x.at_ : Int), .int .i64 (x.epoch : Int), .int .i64 (x.seq : Int), .slice A1 x.data.length c1]) (pre ++ [x])) (fun s hs => eN (hs (Cx cs pre) aV) ⟨A1, c1, rfl, hxok, hs (Sl (.slice A1 x.data.length c1) x.data) aV⟩) ?_
      repeat' (first | (refine bG rfl rfl ?_; refine aO (i := 7) rfl cW rfl (by rfl) (by simp) (by simp [Value.oneCell']) ?_; refine aB ?_; refine cA ?_) | (apply aG) | (apply bP))
      refine tU (i := 2) rfl (show _ = rec by rw [← hrec]) (.obj l (.loop rec) :: .obj d (.deferred (some [])) :: .row (.slice A6 (pre.length + 1) c6) 124 4 (pre.length + 1) (cs ++ [.int .i64 (x.at_ : Int), .int .i64 (x.epoch : Int), .int .i64 (x.seq : Int), .slice A1 x.data.length c1]) :: .blk b1 [.int .i64 (hn : Int)] 3 :: .blk b2 [.slice A xs.length c] 33 :: .blk b5 [.slice A6 (pre.length + 1) c6] 120 :: (ds.map s7 ++ H)) _ (fun w hs => hs.weaken bU (fun _ h => h)) ⟨rfl, ⟨_, _, by rw [List.length_append, List.length_singleton], aV, fun p hp => List.mem_cons_of_mem _ (hR2 p hp)⟩, fun p hp => List.mem_cons_of_mem _ hp⟩
    · rintro H2 R2 ⟨v, cs, rfl, hcx, hR2⟩
      refine ⟨0, rec, rfl, by rw [← hrec], by rw [← hrec], ?_⟩
      clear hrec
      refine kS (.row v 124 4 (nR xs hn).length cs :: .blk b5 [v] 120 :: ((d :: ds).map s7 ++ H)) R2 (fun w hs => (hs.weaken (H' := .obj d (.deferred (some [])) :: .row v 124 4 (nR xs hn).length cs :: .blk b5 [v] 120 :: (ds.map s7 ++ H)) bU (fun _ h => h)).rot3) ?_
      apply bP
      apply aD
      refine oL 0 rfl (fun A2 c2 hv => ?_); subst hv
      refine yI 0 rfl rfl (by decide) hcx (fun A3 c3 hv => ?_); cases hv
      refine iI rZ ?_
      obtain ⟨out, half, hcu⟩ : ∃ out half, lP xs hn = (out, half) := ⟨_, _, rfl⟩
      obtain ⟨l0, hl0⟩ : ∃ l0, nR xs hn = l0 := ⟨_, rfl⟩
      rw [hcu] at hm2 h2 h3 ⊢
      rw [hl0] at hcx ⊢
      simp only at hm2 h2 h3 ⊢
      have hcu1 := Go.Lib.hid hcu
      have hl1 := Go.Lib.hid hl0
      have hm4 : Sl (.slice A' out.length c') out ∈ R2 := hR2 _ hm2
      clear hcu hl0 hcx hm2
      apply aF
      refine dQ eT (by decide +kernel) (zI (p := fun e => mN _ e = true) (d :: ds)) (List.Sublist.refl _) ?_
      all_goals ((refine bF 0 ?_; ((refine aM (i := 0) rfl rfl rfl ?_)); refine aJ ?_))
      all_goals ((refine bF 1 ?_; ((refine bQ rfl ?_)); refine aJ ?_))
      all_goals ((refine bF 2 ?_; ((refine fF rfl rfl (fun h => ?_) (fun h => ?_))) <;> (refine aJ ?_)))
      all_goals ((refine bF 3 ?_; ((refine aH ?_)); refine aJ ?_))
      all_goals (first | (refine bF 4 ?_; ((refine aH ?_)); refine aJ ?_) | (refine dH 4 (List.Sublist.refl _) ?_))
      all_goals (first | (refine bF 5 ?_; ((refine bQ rfl ?_)); refine aJ ?_) | (refine dH 5 (List.Sublist.refl _) ?_))
      all_goals (first | (refine bF 6 ?_; ((refine fS rfl rfl (fun h => ?_) (fun h => ?_))) <;> (refine aJ ?_)) | (refine dH 6 (List.Sublist.refl _) ?_))
      all_goals (first | (refine bF 7 ?_; ((refine aH ?_)); refine aJ ?_) | (refine dH 7 (List.Sublist.refl _) ?_))
      all_goals (first | (refine bF 8 ?_; ((refine aM (i := 0) rfl rfl rfl ?_)); refine aJ ?_) | (refine dH 8 (List.Sublist.refl _) ?_))
      all_goals (first | (refine bF 9 ?_; ((refine oW rfl rfl aV (List.getElem?_eq_getElem (by omega)) (fun b o A c hok => ?_))); refine aJ ?_) | (refine dH 9 (List.Sublist.refl _) ?_))
      all_goals (first | (refine bF 10 ?_; ((refine aC rfl ?_)); refine aJ ?_) | (refine dH 10 (List.Sublist.refl _) ?_))
      all_goals (first | (refine bF 11 ?_; ((refine aQ rfl cJ rfl ?_)); refine aJ ?_) | (refine dH 11 (List.Sublist.refl _) ?_))
      all_goals (first | (refine bF 12 ?_; ((refine aH ?_)); refine aJ ?_) | (refine dH 12 (List.Sublist.refl _) ?_))
      all_goals (first | (refine bF 13 ?_; ((refine oW rfl rfl aV (List.getElem?_eq_getElem (by omega)) (fun b o A c hok => ?_))); refine aJ ?_) | (refine dH 13 (List.Sublist.refl _) ?_))
      all_goals (first | (refine bF 14 ?_; ((refine aC rfl ?_)); refine aJ ?_) | (refine dH 14 (List.Sublist.refl _) ?_))
      all_goals (first | (refine bF 15 ?_; ((refine aQ rfl cJ rfl ?_)); refine aJ ?_) | (refine dH 15 (List.Sublist.refl _) ?_))
      all_goals (first | (refine bF 16 ?_; ((refine fF rfl rfl (fun h => ?_) (fun h => ?_))) <;> (refine aJ ?_)) | (refine dH 16 (List.Sublist.refl _) ?_))
      all_goals (first | (refine bF 17 ?_; ((first | refine bT rfl eJ ?_ | refine cI rfl eJ ?_)); refine aJ ?_) | (refine dH 17 (List.Sublist.refl _) ?_))
      all_goals ((refine bF 18 ?_; ((first | refine bT rfl eJ ?_ | refine cI rfl eJ ?_)); refine aJ ?_))
      all_goals refine gX ?_
      repeat' (first | (apply aA) | (apply bE) | (apply aK; exact rfl) | (apply aI; exact rfl) | (apply aG) | (apply aD) | (apply bP) | (apply aP; exact rfl; ((refine aM (i := 0) rfl rfl rfl ?_)); refine aB ?_) | (apply aU; exact rfl; ((refine bI rfl rfl (by omega) (by omega) ?_)); refine aB ?_) | (refine aE rfl rfl ?_; ((first | refine aH ?_ | refine aX ?_)); refine aB ?_))
      · have hnext : lP xs (hn + 1) = (l0, hn) := by
          show (if _ then _ else _) = _
          rw [hl1.out, hcu1.out, if_pos ⟨by omega, .inl (by simp only; omega)⟩]
        refine nK (m - 1) ((d :: ds).map s7 ++ H) (Sl (.slice A2 l0.length c2) l0 :: R2) (by omega) eE ⟨hn + 1, A2, c2, d :: ds, by omega, rfl, rfl, by rw [hnext]; rfl, by rw [hnext]; rfl, rfl, by rw [hnext]; exact List.mem_cons_self, fun p hp => List.mem_cons_of_mem _ (hR2 _ (hR _ hp))⟩ (fun w hs => hs.weaken bU cZ)
      · have hnext : lP xs (hn + 1) = (l0, hn) := by
          show (if _ then _ else _) = _
          rw [hl1.out, hcu1.out, if_pos ⟨by omega, .inr (by show (out.getD 0 Rc.zero).epoch < (l0.getD 0 Rc.zero).epoch; rw [qY out (by omega), qY l0 (by omega)]; omega)⟩]
        refine nK (m - 1) ((d :: ds).map s7 ++ H) (Sl (.slice A2 l0.length c2) l0 :: R2) (by omega) eE ⟨hn + 1, A2, c2, d :: ds, by omega, rfl, rfl, by rw [hnext]; rfl, by rw [hnext]; rfl, rfl, by rw [hnext]; exact List.mem_cons_self, fun p hp => List.mem_cons_of_mem _ (hR2 _ (hR _ hp))⟩ (fun w hs => hs.weaken bU cZ)
      · have hnext : lP xs (hn + 1) = (out, half) := by
          show (if _ then _ else _) = _
          rw [hl1.out, hcu1.out, if_neg (fun hc => by
            rcases hc.2 with e | e
            · simp only at e; omega
            · simp only at e; rw [qY out (by omega), qY l0 (by omega)] at e; omega)]
        refine nK (m - 1) ((d :: ds).map s7 ++ H) R2 (by omega) eE ⟨hn + 1, A', c', d :: ds, by omega, rfl, rfl, by rw [hnext]; rfl, by rw [hnext]; rfl, rfl, by rw [hnext]; exact hm4, fun p hp => hR2 _ (hR _ hp)⟩ (fun w hs => hs.weaken bU cZ)
      · have hnext : lP xs (hn + 1) = (out, half) := by
          show (if _ then _ else _) = _
          rw [hl1.out, hcu1.out, if_neg (fun hc => by have := hc.1; omega)]
        refine nK (m - 1) ((d :: ds).map s7 ++ H) R2 (by omega) eE ⟨hn + 1, A', c', d :: ds, by omega, rfl, rfl, by rw [hnext]; rfl, by rw [hnext]; rfl, rfl, by rw [hnext]; exact hm4, fun p hp => hR2 _ (hR _ hp)⟩ (fun w hs => hs.weaken bU cZ)
  · have hh2 : hn = 2 := by omega
    subst hh2
    refine p5 (.inl rfl) (vA (jM rfl (bS rfl) (bS rfl)) H (Sl (.slice A' (kG xs).1.length c') (kG xs).1 :: R) (fun w hs => hs.weaken bU (bL hm2 hR)) (k A' c') ds)
end Go.Proofs.YtggdljhmbckpmaaGreat
