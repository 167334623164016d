/- The record at a place: walks. The records of a half, yielded: walks. -/
import Derived.Test.YtggdljhmbckpmaaGreatF3J
import Derived.Test.YtggdljhmbckpmaaGreatA10J
import Derived.Test.YtggdljhmbckpmaaGreatF2J
set_option linter.unusedVariables false
set_option linter.unusedSimpArgs false
namespace Go.Proofs.YtggdljhmbckpmaaGreat
open Go Go.RowKit
set_option maxRecDepth 100000
set_option maxHeartbeats 800000

theorem jD (xs : List UInt8) : eN xs < 4294967296 := by
  unfold eN four
  repeat' ((first | exact Nat.mod_lt _ cQ | exact Nat.lt_of_lt_of_le (UInt8.toNat_lt _) cQ | refine Nat.or_lt_two_pow (n := 32) ?_ ?_))
def Rc.zero : Rc := ⟨0, 0, 0, []⟩
/-- The record at a place, and whether it is right. -/
def fU (b : List UInt8) (at_ limit : Nat) : Rc × Bool :=
  if limit < at_ + 17 then (Rc.zero, false)
  else if b.getD at_ 0 ≠ 167 then (Rc.zero, false)
  else if eN (b.drop (at_ + 13)) ≠ jU ((b.take (at_ + 13)).drop (at_ + 1)) then (Rc.zero, false)
  else if limit < at_ + 21 + eN (b.drop (at_ + 9)) then (Rc.zero, false)
  else
    let data := (b.take (at_ + 17 + eN (b.drop (at_ + 9)))).drop (at_ + 17)
    (⟨at_, eN (b.drop (at_ + 1)), eN (b.drop (at_ + 5)), data⟩, decide (eN (b.drop (at_ + 17 + eN (b.drop (at_ + 9)))) = jU data))
def KRc (K : Value → List Hp → List MP → Prop) (r : Rc × Bool) (H : List Hp) (R : List MP) : Prop := ∀ A c, K (.tuple #[rcV A c r.1, .bool r.2]) H (Sl (.slice A r.1.data.length c) r.1.data :: R)
theorem nZ {K : Value → List Hp → List MP → Prop} {r r' : Rc × Bool} {H : List Hp} {R : List MP} (e : r = r') (h : KRc K r H R) : KRc K r' H R := e ▸ h

theorem tP {w0 : World} {H : List Hp} {R : List MP} {K : Value → List Hp → List MP → Prop} (A0 : Option Addr) (c0 : Nat) (xs : List UInt8) (at_ limit : Nat) (hb : xs.length ≤ 600000) (hal : at_ ≤ limit) (hlb : limit ≤ xs.length)
    (hm : Sl (.slice A0 xs.length c0) xs ∈ R)
    (k : KRc K (fU xs at_ limit) H R) : CallsK Tryz.prog w0 149 #[.slice A0 xs.length c0, .int .i64 (at_ : Int), .int .i64 (limit : Int)] H R K := by
  refine bV Tryz.func149 rfl Tryz.ntmps149 fI ?_
  repeat' (first | (apply aF) | (apply aA) | (apply bP) | (apply bF) | (apply aK; exact rfl) | (apply aJ; exact rfl) | (apply aH) | (apply aD) | (apply bN) | (apply aP; exact rfl; ((first | refine aL (i := 1) rfl rfl rfl ?_ | refine aL (i := 2) rfl rfl rfl ?_ | refine bD rfl cL rfl ?_)); refine aB ?_) | (apply aU; exact rfl; ((refine eY rfl rfl aO aO ?_)); refine aB ?_) | (apply aU; exact rfl; ((first | refine bQ rfl rfl (fun h => ?_) (fun h => ?_) | refine eD rfl rfl (fun h => ?_) (fun h => ?_))) <;> (refine aB ?_)) | (apply gZ; exact rfl; ((refine iQ eR rfl aX (List.getElem?_eq_getElem aO) (fun b o => ?_))); refine aB ?_) | (apply bE; exact rfl; ((refine aN (i := 0) rfl cW rfl dT dB eK ?_)); refine aB ?_; refine cE ?_) | (refine aE rfl rfl ?_; ((first | refine aG ?_ | refine aY ?_ | refine bX rfl eR ?_ | refine cH rfl eR ?_ | refine cR iE iE ?_ | refine dI gG ?_)); refine aB ?_) | (refine cX rfl ?_; refine aB ?_) | (refine bJ rfl rfl ?_; ((first | refine dX cW (fun b => ?_) | refine bL cW (fun b => ?_))); refine aB ?_))
  · refine aZ (.inl rfl) (iN rfl (dC (i := 0) rfl rfl rfl) (bR rfl)) (cA H (Sl (.slice none 0 0) ([] : List UInt8) :: R) (fun w hs => (hs.weaken eB (fun _ h => h)).sl_nil UInt8) ?_)
    exact nZ (r' := (Rc.zero, false)) (by unfold fU; rw [if_pos aO]) k none 0
  · refine aZ (.inl rfl) (iN rfl (dC (i := 0) rfl rfl rfl) (bR rfl)) (cA H (Sl (.slice none 0 0) ([] : List UInt8) :: R) (fun w hs => (hs.weaken eB hP).sl_nil UInt8) ?_)
    refine nZ (r' := (Rc.zero, false)) ?_ k none 0
    have hne : xs.getD at_ 0 ≠ 167 := by
      rw [mD xs at_ aO]
      intro e; rw [e] at h; exact h rfl
    unfold fU; rw [if_neg aO, if_pos hne]
  have hlt : at_ + 17 ≤ limit := by omega
  have heq : ¬ (xs.getD at_ 0 ≠ 167) := by
    rw [mD xs at_ aO]
    intro e
    exact e (UInt8.toNat_inj.1 (by show xs[at_].toNat = 167; omega))
  have h9 := jD (xs.drop (at_ + 9))
  repeat' (first | (refine dK rfl ?_; refine gO rfl fA ?_; refine oE 2 1 _ _ _ _ xs at_ 9 rfl rfl hb aO aX ?_; refine aB ?_) | (refine aE rfl rfl ?_; refine jG rfl (Nat.le_trans (Nat.le_of_lt (jD _)) cQ) ?_; refine aB ?_) | (apply aF) | (apply aH) | (apply aD) | (refine aE rfl rfl ?_; ((refine aY ?_)); refine aB ?_))
  · skip
    refine eC fK jN (fun _ _ _ _ _ _ h => h) (List.Sublist.refl _) ?_
    all_goals ((refine bG 0 ?_; ((refine aG ?_)); refine aI ?_))
    all_goals ((refine bG 2 ?_; ((refine aL (i := 2) rfl rfl rfl ?_)); refine aI ?_))
    all_goals ((refine bG 3 ?_; ((refine aL (i := 1) rfl rfl rfl ?_)); refine aI ?_))
    all_goals ((refine bG 4 ?_; ((refine bM rfl rfl aO aO ?_)); refine aI ?_))
    all_goals ((refine bG 5 ?_; ((refine aL (i := 1) rfl rfl rfl ?_)); refine aI ?_))
    all_goals ((refine bG 6 ?_; ((refine bM rfl rfl aO aO ?_)); refine aI ?_))
    all_goals ((refine bG 7 ?_; ((refine fY rfl aX rfl rfl rfl rfl aO aO aO (fun A8 c8 => ?_))); refine aI ?_))
    -- left: [1, 8, 9, 10, 11, 12, 13, 14, 15, 16, 17]; ready: [1]: ['call']
    refine gE 1 ?_
    refine gO rfl fA ?_; refine oE 2 1 _ _ _ _ xs at_ 13 rfl rfl hb aO aX ?_
    refine ⟨.inl (fun w hs => hs), ?_⟩; refine aI ?_
    refine gE 8 ?_
    refine aT fA ?_; refine yL _ _ _ ((xs.take ((at_ : Int) + 13).toNat).drop ((at_ : Int) + 1).toNat) (by simp; omega) (by simp; omega) aX ?_
    refine ⟨.inl (fun w hs => hs), ?_⟩; refine aI ?_
    all_goals ((refine bG 9 ?_; ((refine eD rfl rfl (fun h => ?_) (fun h => ?_))) <;> (refine aI ?_)))
    all_goals ((refine bG 10 ?_; ((refine aG ?_)); refine aI ?_))
    all_goals (first | (refine bG 11 ?_; ((refine aG ?_)); refine aI ?_) | (refine dS 11 (List.Sublist.refl _) ?_))
    all_goals (first | (refine bG 12 ?_; ((refine aG ?_)); refine aI ?_) | (refine dS 12 (List.Sublist.refl _) ?_))
    all_goals (first | (refine bG 13 ?_; ((refine aL (i := 1) rfl rfl rfl ?_)); refine aI ?_) | (refine dS 13 (List.Sublist.refl _) ?_))
    all_goals (first | (refine bG 14 ?_; ((refine eY rfl rfl aO aO ?_)); refine aI ?_) | (refine dS 14 (List.Sublist.refl _) ?_))
    all_goals (first | (refine bG 15 ?_; ((refine eY rfl rfl aO aO ?_)); refine aI ?_) | (refine dS 15 (List.Sublist.refl _) ?_))
    all_goals (first | (refine bG 16 ?_; ((refine fD rfl rfl (fun h => ?_) (fun h => ?_))) <;> (refine aI ?_)) | (refine dS 16 (List.Sublist.refl _) ?_))
    all_goals ((refine bG 17 ?_; ((first | refine bX rfl eR ?_ | refine cH rfl eR ?_)); refine aI ?_))
    all_goals refine iC ?_
    repeat' (first | (apply aF) | (apply aA) | (apply bP) | (apply bF) | (apply aK; exact rfl) | (apply aJ; exact rfl) | (apply aH) | (apply aD) | (apply bN) | (apply bE; exact rfl; ((refine aN (i := 0) rfl cW rfl dT dB eK ?_)); refine aB ?_; refine cE ?_) | (refine aE rfl rfl ?_; ((first | refine aY ?_ | refine dI gG ?_)); refine aB ?_))
    · refine aZ (.inl rfl) (iN rfl (dC (i := 0) rfl rfl rfl) (bR rfl)) (cA H (Sl (.slice none 0 0) ([] : List UInt8) :: R) (fun w hs => (hs.weaken eB hP).sl_nil UInt8) ?_)
      refine nZ (r' := (Rc.zero, false)) ?_ k none 0
      have hne : eN (xs.drop (at_ + 13)) ≠ jU ((xs.take (at_ + 13)).drop (at_ + 1)) := fun e => h (by exact_mod_cast e)
      unfold fU; rw [if_neg aO, if_neg heq, if_pos hne]
    · refine aZ (.inl rfl) (iN rfl (dC (i := 0) rfl rfl rfl) (bR rfl)) (cA H (Sl (.slice none 0 0) ([] : List UInt8) :: R) (fun w hs => (hs.weaken eB hP).sl_nil UInt8) ?_)
      refine nZ (r' := (Rc.zero, false)) ?_ k none 0
      rename_i hs13
      have heq2 : ¬ (eN (xs.drop (at_ + 13)) ≠ jU ((xs.take (at_ + 13)).drop (at_ + 1))) := fun e => e (by exact_mod_cast hs13)
      unfold fU; rw [if_neg aO, if_neg heq, if_neg heq2, if_pos aO]
    rename_i hs13
    have heq2 : ¬ (eN (xs.drop (at_ + 13)) ≠ jU ((xs.take (at_ + 13)).drop (at_ + 1))) := fun e => e (by exact_mod_cast hs13)
    have hn21 : at_ + 21 + eN (xs.drop (at_ + 9)) ≤ limit := by omega
    refine eC fK jN (fun _ _ _ _ _ _ h => h) (List.Sublist.refl _) ?_
    all_goals ((refine bG 0 ?_; ((refine aL (i := 1) rfl rfl rfl ?_)); refine aI ?_))
    all_goals ((refine bG 1 ?_; ((refine aG ?_)); refine aI ?_))
    all_goals ((refine bG 4 ?_; ((refine aG ?_)); refine aI ?_))
    all_goals ((refine bG 7 ?_; ((refine aL (i := 2) rfl rfl rfl ?_)); refine aI ?_))
    all_goals ((refine bG 8 ?_; ((refine aL (i := 1) rfl rfl rfl ?_)); refine aI ?_))
    all_goals ((refine bG 9 ?_; ((refine bM rfl rfl aO aO ?_)); refine aI ?_))
    all_goals ((refine bG 10 ?_; ((refine aL (i := 1) rfl rfl rfl ?_)); refine aI ?_))
    all_goals ((refine bG 11 ?_; ((refine bM rfl rfl aO aO ?_)); refine aI ?_))
    all_goals ((refine bG 12 ?_; ((refine aG ?_)); refine aI ?_))
    all_goals ((refine bG 13 ?_; ((refine bM rfl rfl aO aO ?_)); refine aI ?_))
    all_goals ((refine bG 14 ?_; ((refine fY rfl aX rfl rfl rfl rfl aO aO aO (fun A9 c9 => ?_))); refine aI ?_))
    -- left: [2, 3, 5, 6, 15, 16, 17]; ready: [2, 16]: ['call', 'alloc']
    refine cut1 (G := ?G) ?ha ?hb
    case ha =>
      intro hG
      refine pZ 2 16 ?_ ?_
      · refine gO rfl fA ?_; refine oE 2 1 _ _ _ _ xs at_ 1 rfl rfl hb aO aX ?_
        refine ⟨.inl (fun w hs => hs), ?_⟩; refine aI ?_
        all_goals ((refine bG 3 ?_; ((refine jG rfl (Nat.le_trans (Nat.le_of_lt (jD _)) cQ) ?_)); refine aI ?_))
        -- left: [5, 6, 15, 16, 17]; ready: [5, 16]: ['call', 'alloc']
        refine pZ 5 16 ?_ ?_
        · refine gO rfl fA ?_; refine oE 2 1 _ _ _ _ xs at_ 5 rfl rfl hb aO aX ?_
          refine ⟨.inl (fun w hs => hs), ?_⟩; refine aI ?_
          all_goals ((refine bG 6 ?_; ((refine jG rfl (Nat.le_trans (Nat.le_of_lt (jD _)) cQ) ?_)); refine aI ?_))
          all_goals ((refine bG 15 ?_; ((refine dI gG ?_)); refine aI ?_))
          -- left: [16, 17]; ready: [16]: ['alloc']
          refine gE 16 ?_
          refine GW.ow rfl ?_; refine bL cW (fun b10 => ?_)
          refine ⟨.inl (fun w hs => hs.weaken (List.sublist_cons_self _ _) (fun p hp => hp)), ?_⟩; refine aI ?_
          exact hG b10
        · refine GW.ow rfl ?_; refine bL cW (fun b10 => ?_)
          refine ⟨.inl (fun w hs => hs.weaken (List.sublist_cons_self _ _) (fun p hp => hp)), ?_⟩; refine aI ?_
          refine gE 5 ?_
          refine gO rfl fA ?_; refine oE 3 2 _ _ _ _ xs at_ 5 rfl rfl hb aO aX ?_
          refine ⟨.inl (fun w hs => hs.weaken (List.sublist_cons_self _ _) (fun p hp => hp)), ?_⟩; refine aI ?_
          all_goals ((refine bY 6 fE ?_; ((refine jG rfl (Nat.le_trans (Nat.le_of_lt (jD _)) cQ) ?_)); refine aI ?_))
          all_goals ((refine bY 15 fE ?_; ((refine dI gG ?_)); refine aI ?_))
          -- left: [17]; ready: [17]: ['store']
          exact hG b10
      · refine GW.ow rfl ?_; refine bL cW (fun b10 => ?_)
        refine ⟨.inl (fun w hs => hs.weaken (List.sublist_cons_self _ _) (fun p hp => hp)), ?_⟩; refine aI ?_
        refine gE 2 ?_
        refine gO rfl fA ?_; refine oE 3 2 _ _ _ _ xs at_ 1 rfl rfl hb aO aX ?_
        refine ⟨.inl (fun w hs => hs.weaken (List.sublist_cons_self _ _) (fun p hp => hp)), ?_⟩; refine aI ?_
        all_goals ((refine bY 3 fE ?_; ((refine jG rfl (Nat.le_trans (Nat.le_of_lt (jD _)) cQ) ?_)); refine aI ?_))
        -- left: [5, 6, 15, 17]; ready: [5]: ['call']
        refine gE 5 ?_
        refine gO rfl fA ?_; refine oE 3 2 _ _ _ _ xs at_ 5 rfl rfl hb aO aX ?_
        refine ⟨.inl (fun w hs => hs.weaken (List.sublist_cons_self _ _) (fun p hp => hp)), ?_⟩; refine aI ?_
        all_goals ((refine bY 6 fE ?_; ((refine jG rfl (Nat.le_trans (Nat.le_of_lt (jD _)) cQ) ?_)); refine aI ?_))
        all_goals ((refine bY 15 fE ?_; ((refine dI gG ?_)); refine aI ?_))
        -- left: [17]; ready: [17]: ['store']
        exact hG b10
    case hb =>
      intro b10
      refine mY 17 ?_
      refine aN (i := 0) rfl cW rfl dT dB eK ?_
      refine ⟨.inl (fun w hs => hs.weaken (List.sublist_cons_self _ _) (fun p hp => hp)), ?_⟩
      refine aI ?_
      refine kN ?_
      refine kU jN ?_
      repeat' (first | (apply aF) | (apply aD))
      refine eC fK jN (fun _ _ _ _ _ _ h => h) (List.Sublist.cons_cons _ fE) ?_
      all_goals ((refine bY 0 (List.Sublist.cons_cons _ fE) ?_; ((refine aL (i := 0) rfl rfl rfl ?_)); refine aI ?_))
      all_goals ((refine bY 1 (List.Sublist.cons_cons _ fE) ?_; ((refine aG ?_)); refine aI ?_))
      all_goals ((refine bY 2 (List.Sublist.cons_cons _ fE) ?_; ((refine aG ?_)); refine aI ?_))
      all_goals ((refine bY 3 (List.Sublist.cons_cons _ fE) ?_; ((refine bM rfl rfl aO aO ?_)); refine aI ?_))
      all_goals ((refine bY 5 (List.Sublist.cons_cons _ fE) ?_; ((refine aC rfl ?_)); refine aI ?_))
      all_goals ((refine bY 6 (List.Sublist.cons_cons _ fE) ?_; ((refine aL (i := 0) rfl rfl rfl ?_)); refine aI ?_))
      -- left: [4, 7, 8, 9, 10]; ready: [4]: ['call']
      have hdl : ((xs.take ((at_ : Int) + 17 + (eN (xs.drop (at_ + 9)) : Int)).toNat).drop ((at_ : Int) + 17).toNat) = (xs.take (at_ + 17 + eN (xs.drop (at_ + 9)))).drop (at_ + 17) := by
        rw [show ((at_ : Int) + 17 + (eN (xs.drop (at_ + 9)) : Int)).toNat = at_ + 17 + eN (xs.drop (at_ + 9)) by omega, show ((at_ : Int) + 17).toNat = at_ + 17 by omega]
      have hdn : ((xs.take (at_ + 17 + eN (xs.drop (at_ + 9)))).drop (at_ + 17)).length = eN (xs.drop (at_ + 9)) := by simp; omega
      have hlen : ((at_ : Int) + 17 + (eN (xs.drop (at_ + 9)) : Int)).toNat - ((at_ : Int) + 17).toNat = eN (xs.drop (at_ + 9)) := by omega
      have hf : ∀ bb : Bool, bb = decide (eN (xs.drop (at_ + 17 + eN (xs.drop (at_ + 9)))) = jU ((xs.take (at_ + 17 + eN (xs.drop (at_ + 9)))).drop (at_ + 17))) → fU xs at_ limit = (⟨at_, eN (xs.drop (at_ + 1)), eN (xs.drop (at_ + 5)), (xs.take (at_ + 17 + eN (xs.drop (at_ + 9)))).drop (at_ + 17)⟩, bb) := fun bb e => by
        unfold fU; rw [if_neg aO, if_neg heq, if_neg heq2, if_neg aO, e]
      refine gE 4 ?_
      refine gO rfl fA ?_; refine oE 3 2 _ _ _ _ xs at_ (17 + eN (xs.drop (at_ + 9))) rfl rfl hb aO aX ?_
      refine ⟨.inl dV, ?_⟩; refine aI ?_
      refine gE 7 ?_
      refine aT fA ?_; refine yL _ _ _ ((xs.take ((at_ : Int) + 17 + (eN (xs.drop (at_ + 9)) : Int)).toNat).drop ((at_ : Int) + 17).toNat) (by rw [hdl, hdn]; omega) (by rw [hdl, hdn]; omega) aX ?_
      refine ⟨.inl dV, ?_⟩; refine aI ?_
      all_goals ((refine bY 8 (List.Sublist.cons_cons _ fE) ?_; ((refine fZ rfl rfl (fun h => ?_) (fun h => ?_))) <;> (refine aI ?_)))
      -- left: [9, 10]; ready: [9]: ['store']
      all_goals
        refine mY 9 ?_
        refine aN (i := 1) rfl cW rfl dT dB eK ?_
        refine ⟨.inl (fun w hs => hs.weaken (List.Sublist.cons_cons _ fE) (fun _ h => h)), ?_⟩; refine aI ?_
        refine kN ?_
        all_goals ((refine bY 10 (List.Sublist.cons_cons _ fE) ?_; ((refine aY ?_)); refine aI ?_))
        all_goals refine iC ?_
      repeat' (first | (apply bP) | (apply aD))
      · rw [hlen, hdl]
        refine aZ (.inl rfl) (iN rfl (dC (i := 1) rfl rfl rfl) (bR rfl)) (cA H (Sl (.slice A9 (eN (xs.drop (at_ + 9))) c9) ((xs.take (at_ + 17 + eN (xs.drop (at_ + 9)))).drop (at_ + 17)) :: R) dV ?_)
        have h' : eN (xs.drop (at_ + (17 + eN (xs.drop (at_ + 9))))) = jU ((xs.take ((at_ : Int) + 17 + (eN (xs.drop (at_ + 9)) : Int)).toNat).drop ((at_ : Int) + 17).toNat) := by exact_mod_cast h
        rw [hdl, ← Nat.add_assoc] at h'
        have k' := nZ (hf true (by rw [decide_eq_true h'])) k A9 c9
        simp only [rcV, hdn] at k'
        exact k'
      · rw [hlen, hdl]
        refine aZ (.inl rfl) (iN rfl (dC (i := 1) rfl rfl rfl) (bR rfl)) (cA H (Sl (.slice A9 (eN (xs.drop (at_ + 9))) c9) ((xs.take (at_ + 17 + eN (xs.drop (at_ + 9)))).drop (at_ + 17)) :: R) dV ?_)
        have h' : eN (xs.drop (at_ + (17 + eN (xs.drop (at_ + 9))))) ≠ jU ((xs.take ((at_ : Int) + 17 + (eN (xs.drop (at_ + 9)) : Int)).toNat).drop ((at_ : Int) + 17).toNat) := fun e => h (by exact_mod_cast e)
        rw [hdl, ← Nat.add_assoc] at h'
        have k' := nZ (hf false (by rw [decide_eq_false h'])) k A9 c9
        simp only [rcV, hdn] at k'
        exact k'
end Go.Proofs.YtggdljhmbckpmaaGreat
namespace Go.Proofs.YtggdljhmbckpmaaGreat
open Go Go.RowKit
set_option maxRecDepth 100000
set_option maxHeartbeats 800000

def Rc.ok (r : Rc) : Prop := r.stop ≤ 600000 ∧ r.epoch < 4294967296 ∧ r.seq < 4294967296
instance : Rep Rc where
  size := 4
  rd s cs x := ∃ A c, cs = [.int .i64 (x.at_ : Int), .int .i64 (x.epoch : Int), .int .i64 (x.seq : Int), .slice A x.data.length c] ∧ x.ok ∧ (Sl (.slice A x.data.length c) x.data).p s
  mono h hp := by obtain ⟨A, c, e, k, l⟩ := hp; exact ⟨A, c, e, k, (Sl _ _).mono _ _ h l⟩
  len hp := by obtain ⟨A, c, rfl, k⟩ := hp; rfl
  one hp := by obtain ⟨A, c, rfl, k⟩ := hp; simp [Value.oneCell']
instance : Unp Rc := ⟨Option Addr × Nat, fun x y => [.int .i64 (x.at_ : Int), .int .i64 (x.epoch : Int), .int .i64 (x.seq : Int), .slice y.1 x.data.length y.2], fun x _ => x.ok, fun x y => [Sl (.slice y.1 x.data.length y.2) x.data],
  fun {s cs' x} h => by
    obtain ⟨A, c, rfl, h2, h3⟩ := h
    exact ⟨(A, c), rfl, h2, fun p hp => by simp at hp; subst hp; exact h3⟩,
  fun {s x y} h h' => ⟨y.1, y.2, rfl, h, h' _ dB⟩⟩
section
variable {P : Program} {w0 : World} {E : List Value} {H : List Hp} {R : List MP} {ty : TypeId} {K : Value → List MP → Prop}
theorem nD {t e : TypeId} {x ix : Operand} {agg : Bool} {by_ : Nat} {z : Value} [h : TyU P t (.slice e)] [he : Ty P e agg 4 by_ z] {v : Value} {xs : List Rc} {k : IntKind} {i : Nat} {d : Rc} (hx : ev E x = v) (hix : ev E ix = .int k (i : Int)) (hm : Sl v xs ∈ R) (hd : xs[i]? = some d)
    (kk : ∀ b o A c, d.ok → K (.pointer (some ⟨b, o, none⟩)) (At b o [.int .i64 (d.at_ : Int), .int .i64 (d.epoch : Int), .int .i64 (d.seq : Int), .slice A d.data.length c] :: Sl (.slice A d.data.length c) d.data :: R)) : PW P w0 E (.indexAddr t x ix) ty H R K := dZ hx hix hm rfl (by simpa using hd) aO (fun b o (y : Option Addr × Nat) (hy : d.ok) => kk b o y.1 y.2 hy)
end

theorem oP {b : List UInt8} {at_ limit : Nat} (hl : limit ≤ 600000) (h : (fU b at_ limit).2 = true) : (fU b at_ limit).1.ok ∧ (fU b at_ limit).1.at_ = at_ ∧ (fU b at_ limit).1.stop ≤ limit ∧ at_ + 21 ≤ (fU b at_ limit).1.stop := by
  unfold fU at h ⊢
  split at h
  · cases h
  split at h
  · cases h
  split at h
  · cases h
  split at h
  · cases h
  rename_i h1 h2 h3 h4
  rw [if_neg h1, if_neg h2, if_neg h3, if_neg h4]
  have e : ((b.take (at_ + 17 + eN (b.drop (at_ + 9)))).drop (at_ + 17)).length ≤ eN (b.drop (at_ + 9)) := by simp; omega
  refine ⟨⟨?_, jD _, jD _⟩, rfl, ?_, ?_⟩ <;> simp only [Rc.stop] <;> omega

/-- The records from a place on. -/
def iF (b : List UInt8) (limit : Nat) : Nat → Nat → Nat → Option Nat → List Rc
  | 0, _, _, _ => []
  | m + 1, at_, seq, ep =>
    if (fU b at_ limit).2 = true ∧ (fU b at_ limit).1.seq = seq ∧ (∀ e, ep = some e → (fU b at_ limit).1.epoch = e) then (fU b at_ limit).1 :: iF b limit m (fU b at_ limit).1.stop (seq + 1) (some (fU b at_ limit).1.epoch) else []
def eP (b : List UInt8) (half : Nat) : List Rc := iF b ((half + 1) * b.length / 2) (b.length + 1) (half * b.length / 2) 0 none
def epI : Option Nat → Int
  | none => -1
  | some e => e
theorem epI_ge {ep : Option Nat} (h : ¬ epI ep ≥ 0) : ep = none := by
  cases ep with
  | none => rfl
  | some e => exact absurd (by simp [epI]) h
theorem epI_eq {ep : Option Nat} {r : Nat} (h : (r : Int) = epI ep) : ∀ e, ep = some e → r = e := by
  rintro e rfl
  have : (r : Int) = (e : Int) := h
  omega
theorem epI_ne {ep : Option Nat} {r : Nat} (h0 : epI ep ≥ 0) (h : ¬ (r : Int) = epI ep) : ¬ ∀ e, ep = some e → r = e := fun hc => by
  cases ep with
  | none => simp [epI] at h0
  | some e => exact h (by rw [hc e rfl]; rfl)
theorem rD {b : List UInt8} {limit m at_ seq : Nat} {ep : Option Nat} (h : ¬ ((fU b at_ limit).2 = true ∧ (fU b at_ limit).1.seq = seq ∧ (∀ e, ep = some e → (fU b at_ limit).1.epoch = e))) : iF b limit m at_ seq ep = [] := by
  cases m with
  | zero => rfl
  | succ m => rw [iF, if_neg h]
theorem xI {b : List UInt8} {limit m at_ seq : Nat} {ep : Option Nat} (hm : 0 < m) (h : (fU b at_ limit).2 = true ∧ (fU b at_ limit).1.seq = seq ∧ (∀ e, ep = some e → (fU b at_ limit).1.epoch = e)) : iF b limit m at_ seq ep = (fU b at_ limit).1 :: iF b limit (m - 1) (fU b at_ limit).1.stop (seq + 1) (some (fU b at_ limit).1.epoch) := by
  obtain ⟨m, rfl⟩ : ∃ k, m = k + 1 := ⟨m - 1, by omega⟩
  rw [iF, if_pos h]; rfl

theorem recs1_k {w0 : World} {H : List Hp} {R : List MP} {K : Value → List Hp → List MP → Prop} (l p q b1 b2 : Nat) (A : Option Addr) (c : Nat) (xs : List UInt8) (half : Nat) (hh : half ≤ 1) (hb : xs.length ≤ 600000) (I : List Rc → List Hp → List MP → Prop)
    (hI : ∀ pre H R, I pre H R → H[p]? = some (.blk b1 [.int .i64 (half : Int)] 3) ∧ H[q]? = some (.blk b2 [.slice A xs.length c] 33) ∧ Sl (.slice A xs.length c) xs ∈ R)
    (hmono : ∀ pre H R R', I pre H R → (∀ z ∈ R, z ∈ R') → I pre H R')
    (hy : ∀ pre (x : Rc) A' c' H R, I pre H R → pre.length ≤ 600000 → x.ok → Sl (.slice A' x.data.length c') x.data ∈ R → YK Tryz.prog w0 l (rcV A' c' x) H R (fun v H' R' => v = .bool true ∧ I (pre ++ [x]) H' R' ∧ ∀ z ∈ R, z ∈ R'))
    (h0 : I [] H R)
    (k : ∀ H' R', I (eP xs half) H' R' → K (.tuple #[]) H' R') : CallsK Tryz.prog w0 148 #[.func (.yield l) #[] #[], .pointer (some ⟨b1, 0, none⟩), .pointer (some ⟨b2, 0, none⟩)] H R K := by
  obtain ⟨hi, hj, hm⟩ := hI _ _ _ h0
  have hp1 : 0 ≤ (half : Int) * (xs.length : Int) ∧ (half : Int) * (xs.length : Int) ≤ 600000 := by
    rcases (show half = 0 ∨ half = 1 by omega) with rfl | rfl <;> simp <;> omega
  have hp2 : 0 ≤ ((half : Int) + 1) * (xs.length : Int) ∧ ((half : Int) + 1) * (xs.length : Int) ≤ 1200000 := by
    rcases (show half = 0 ∨ half = 1 by omega) with rfl | rfl <;> simp <;> omega
  have hlim : (half + 1) * xs.length / 2 ≤ xs.length ∧ half * xs.length / 2 ≤ (half + 1) * xs.length / 2 := by
    rcases (show half = 0 ∨ half = 1 by omega) with rfl | rfl <;> simp <;> omega
  refine bV Tryz.func148 rfl Tryz.ntmps148 fI ?_
  apply aF
  refine eC fK jN (fun _ _ _ _ _ _ h => h) (List.Sublist.refl _) ?_
  all_goals ((refine bG 0 ?_; ((refine aL (i := p) rfl hi rfl ?_)); refine aI ?_))
  all_goals ((refine bG 1 ?_; ((refine aL (i := q) rfl hj rfl ?_)); refine aI ?_))
  all_goals ((refine bG 2 ?_; ((refine bS rfl ?_)); refine aI ?_))
  all_goals ((refine bG 3 ?_; ((refine gR rfl rfl aO aO ?_)); refine aI ?_))
  all_goals ((refine bG 4 ?_; ((refine kT rfl rfl aO aO aO ?_)); refine aI ?_))
  all_goals ((refine bG 5 ?_; ((refine aL (i := p) rfl hi rfl ?_)); refine aI ?_))
  all_goals ((refine bG 6 ?_; ((refine bM rfl rfl aO aO ?_)); refine aI ?_))
  all_goals ((refine bG 7 ?_; ((refine aL (i := q) rfl hj rfl ?_)); refine aI ?_))
  all_goals ((refine bG 8 ?_; ((refine bS rfl ?_)); refine aI ?_))
  all_goals ((refine bG 9 ?_; ((refine gR rfl rfl aO aO ?_)); refine aI ?_))
  all_goals ((refine bG 10 ?_; ((refine kT rfl rfl aO aO aO ?_)); refine aI ?_))
  all_goals ((refine bG 11 ?_; ((refine aY ?_)); refine aI ?_))
  all_goals ((refine bG 12 ?_; ((refine aY ?_)); refine aI ?_))
  all_goals refine iC ?_
  repeat' (first | (apply aF) | (apply aA) | (apply aV) | (apply aH) | (apply aD) | (refine aE rfl rfl ?_; ((refine aY ?_)); refine aB ?_))
  generalize hL : (half + 1) * xs.length / 2 = limit at hlim
  have hL' : ((half : Int) + 1) * (xs.length : Int) / 2 = (limit : Int) := by rw [← hL]; push_cast; rfl
  rw [hL']
  refine cM [4, 6, 7, 8, 9, 21, 22, 23, 24, 25, 26, 27, 28, 29, 30, 31, 32, 33, 34, 35, 36, 37, 38, 39, 40, 41, 42, 43, 44, 45, 46, 47, 48, 49, 50, 51, 52, 53, 54, 55, 56, 57] (fun m j H' R' => ∃ pre at_ ep, I pre H' R' ∧ j 4 = .int .i64 ((at_ : Nat) : Int) ∧ j 6 = .int .i64 (epI ep) ∧ j 7 = .int .i64 ((pre.length : Nat) : Int) ∧ at_ ≤ limit ∧ limit < at_ + m ∧ pre.length ≤ at_ ∧ (∀ e, ep = some e → e < 4294967296) ∧ pre ++ iF xs limit m at_ pre.length ep = eP xs half) (xs.length + 1) eS ⟨[], half * xs.length / 2, none, h0, ?_, rfl, rfl, by omega, by omega, Nat.zero_le _, (fun e he => by cases he), by rw [← hL]; rfl⟩ ?_
  · show Value.int .i64 _ = _
    refine congrArg _ ?_
    push_cast; rfl
  rintro m j H' R' ⟨pre, at_, ep, hIp, h4, h6, h7, hal, hlm, hpl, hep, hrec⟩
  refine dD (by simp only [eF, List.foldl_cons, List.foldl_nil, List.set_cons_succ, List.set_cons_zero, h4, h6, h7]; rfl) ?_
  obtain ⟨hi', hj', hm'⟩ := hI _ _ _ hIp
  have HR := Go.Lib.hid hrec
  have HE := Go.Lib.hid hep
  clear hrec hep
  obtain ⟨⟨r, is⟩, hra⟩ : ∃ x, fU xs at_ limit = x := ⟨_, rfl⟩
  have hok := @oP xs at_ limit aO
  rw [hra] at hok
  simp only at hok
  have hfin : ∀ H2 R2, I pre H2 R2 → iF xs limit m at_ pre.length ep = [] → K (.tuple #[]) H2 R2 := fun H2 R2 h1 h2 => by
    have := HR.out
    rw [h2, List.append_nil] at this
    exact k _ _ (this ▸ h1)
  cases is
  · skip
    repeat' (first | (refine aE rfl rfl ?_; refine aL (i := q) rfl hj' rfl ?_; refine aB ?_) | (refine dK rfl ?_; refine aT fA ?_; refine tP A c xs at_ limit hb hal aO hm' (nZ hra.symm (fun A' c' => ?_)); dsimp only; refine aB ?_) | (apply aF) | (apply aA) | (apply aV) | (apply bP) | (apply aK; exact rfl) | (apply aH) | (apply aD) | (apply bN) | (apply dQ) | (apply bE; exact rfl; ((refine aN (i := 0) rfl cW rfl dT dB eK ?_)); refine aB ?_; refine cE ?_) | (refine aE rfl rfl ?_; ((first | refine aG ?_ | refine aY ?_ | refine bX rfl eR ?_ | refine cD rfl rfl ?_ | refine dJ rfl ?_)); refine aB ?_) | (refine cX rfl ?_; refine aB ?_) | (refine bJ rfl rfl ?_; ((refine bL cW (fun b => ?_))); refine aB ?_))
    refine aZ (.inl rfl) (gQ rfl) (cA H' R' dV (hfin _ _ hIp (rD (by rw [hra]; simp))))
  · obtain ⟨hrok, hrat, hrs, hrs2⟩ := hok rfl
    repeat' (first | (refine aE rfl rfl ?_; refine aL (i := q) rfl hj' rfl ?_; refine aB ?_) | (refine dK rfl ?_; refine aT fA ?_; refine tP A c xs at_ limit hb hal aO hm' (nZ hra.symm (fun A' c' => ?_)); dsimp only; refine aB ?_) | (apply aF) | (apply aA) | (apply aV) | (apply bP) | (apply aK; exact rfl) | (apply aH) | (apply aD) | (apply bN) | (apply dQ) | (apply aP; exact rfl; ((refine aL (i := 0) rfl rfl rfl ?_)); refine aB ?_) | (apply aU; exact rfl; ((first | refine jS rfl rfl (fun h => ?_) (fun h => ?_) | refine eD rfl rfl (fun h => ?_) (fun h => ?_))) <;> (refine aB ?_)) | (apply bE; exact rfl; ((refine aN (i := 0) rfl cW rfl dT dB eK ?_)); refine aB ?_; refine cE ?_) | (refine aE rfl rfl ?_; ((first | refine aG ?_ | refine aY ?_ | refine bX rfl eR ?_ | refine cH rfl eR ?_ | refine aC rfl ?_ | refine cD rfl rfl ?_ | refine dJ rfl ?_)); refine aB ?_) | (refine cX rfl ?_; refine aB ?_) | (refine bJ rfl rfl ?_; ((refine bL cW (fun b => ?_))); refine aB ?_))
    · refine aZ (.inl rfl) (gQ rfl) (cA H' (Sl (Value.slice A' r.data.length c') r.data :: R') dV (hfin _ _ (hmono _ _ _ _ hIp hP) (rD (by rw [hra]; intro hc; have := hc.2.1; simp only at this; omega))))
    · refine aZ (.inl rfl) (gQ rfl) (cA H' (Sl (Value.slice A' r.data.length c') r.data :: R') dV (hfin _ _ (hmono _ _ _ _ hIp hP) (rD (by rw [hra]; intro hc; exact epI_ne (by assumption) (by assumption) hc.2.2))))
    all_goals
      have hcond : (fU xs at_ limit).2 = true ∧ (fU xs at_ limit).1.seq = pre.length ∧ (∀ e, ep = some e → (fU xs at_ limit).1.epoch = e) := by
        rw [hra]
        refine ⟨rfl, by simp only; omega, ?_⟩
        (first | exact epI_eq (by assumption) | (intro e he; have := epI_ge (ep := ep) (by assumption); rw [this] at he; cases he))
      have HC := Go.Lib.hid hcond
      clear hcond
      refine T_freeze 0 rfl ?_
      refine cE ?_
      refine dK rfl ?_
      refine ow_yield rfl rfl (YK_mono (hy pre r A' c' H' _ (hmono _ _ _ _ hIp hP) aO hrok aX) ?_)
      rintro v H2 R2 ⟨rfl, hI2, hR2⟩
      refine aB ?_
      have hat : At b 0 [.int .i64 (r.at_ : Int), .int .i64 (r.epoch : Int), .int .i64 (r.seq : Int), .slice A' r.data.length c'] ∈ R2 := hR2 _ aX
      clear hR2
      repeat' (first | (apply bF) | (apply aJ; exact rfl) | (apply aH) | (apply aD) | (refine aE rfl rfl ?_; ((first | refine cH rfl eR ?_ | refine dJ rfl ?_)); refine aB ?_))
      refine eC fK jN (fun _ _ _ _ _ _ h => h) (List.Sublist.refl _) ?_
      all_goals ((refine bG 0 ?_; ((refine aC rfl ?_)); refine aI ?_))
      all_goals ((refine bG 1 ?_; ((refine aQ rfl hat rfl ?_)); refine aI ?_))
      all_goals ((refine bG 2 ?_; ((refine bD rfl hat rfl ?_)); refine aI ?_))
      -- left: [3, 4, 5]; ready: [3]: ['call']
      refine gE 3 ?_
      refine aT fA ?_; refine end_k A' c' r (by have := hrok.1; omega) ?_
      refine ⟨.inl dV, ?_⟩; refine aI ?_
      all_goals ((refine bG 4 ?_; ((refine aY ?_)); refine aI ?_))
      all_goals ((refine bG 5 ?_; ((refine aY ?_)); refine aI ?_))
      all_goals refine iC ?_
      repeat' (first | (apply aA) | (apply aH) | (apply aD) | (apply bU) | (apply aU; exact rfl; ((refine bM rfl rfl aO aO ?_)); refine aB ?_) | (refine aE rfl rfl ?_; ((first | refine aG ?_ | refine aY ?_)); refine aB ?_))
      refine cJ (m - 1) H2 R2 aO eS ⟨pre ++ [r], r.stop, some r.epoch, hI2, rfl, rfl, ?_, by omega, by omega, ?_, ?_, ?_⟩ dV
      · simp
      · simp; omega
      · intro e he; cases he; exact hrok.2.1
      · rw [← HR.out, xI aO HC.out, hra]; simp
end Go.Proofs.YtggdljhmbckpmaaGreat
