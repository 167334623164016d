/- Crash, Read: walks. The bytes of a record: walks. -/
import Derived.Test.YtggdljhmbckpmaaGreatE5J
import Derived.Test.YtggdljhmbckpmaaGreatA10J
import Derived.Test.YtggdljhmbckpmaaGreatF3J
import Derived.Test.YtggdljhmbckpmaaGreatF2J
set_option linter.unusedVariables false
set_option linter.unusedSimpArgs false
namespace Go.Proofs.YtggdljhmbckpmaaGreat
open Go Go.RowKit
set_option maxRecDepth 100000
set_option maxHeartbeats 800000

def tJ (picks : List Int) (i : Nat) : Nat := match picks[i]? with | some p => amt p | none => 0
def gA (b : List UInt8) (w : DW) (k : Nat) : List UInt8 :=
  if k ≤ w.data.length then pI b w.at_.toNat (w.data.take k) else if 0 < w.data.length then pI b (w.at_.toNat + 1) (w.data.drop 1) else b
def lP (picks : List Int) : List DW → Nat → List UInt8 → List UInt8
  | [], _, b => b
  | w :: ws, i, b => lP picks ws (i + 1) (gA b w (tJ picks i % (w.data.length + 2)))
def pV (d : Drive) (picks : List Int) : Drive × Int := if eW d then (⟨lP picks d.pending 0 d.bytes, []⟩, 0) else (⟨[], []⟩, 301)
theorem iV (b : List UInt8) (w : DW) (k : Nat) (h : w.at_.toNat + w.data.length ≤ b.length) : (gA b w k).length = b.length := by
  unfold gA
  split
  · exact kP _ _ _ (by simp; omega)
  · split
    · exact kP _ _ _ (by simp; omega)
    · rfl

theorem iH {w0 : World} {H : List Hp} {R : List MP} {K : Value → List Hp → List MP → Prop} (A0 : Option Addr) (c0 : Nat) (A2 : Option Addr) (c2 : Nat) (A3 : Option Addr) (c3 : Nat) (d : Drive) (l : List Int) (hb : d.bytes.length ≤ 9223372036854775807) (hp : d.pending.length ≤ 9223372036854775807) (hll : l.length ≤ 9223372036854775807)
    (hm : Sl (.slice A0 d.bytes.length c0) d.bytes ∈ R) (hm2 : Sl (.slice A2 d.pending.length c2) d.pending ∈ R) (hm3 : Sl (.slice A3 l.length c3) l ∈ R)
    (k : KD K (pV d l) H R) : CallsK Tryz.prog w0 27 #[dv A0 c0 A2 c2 d, .slice A3 l.length c3] H R K := by
  refine bV Tryz.func27 rfl Tryz.ntmps27 fI ?_
  repeat' (first | (refine dK rfl ?_; refine aT fA ?_; refine mA _ _ _ _ d hb hp hm hm2 ?_; refine aB ?_) | (apply aF) | (apply aA) | (apply bP) | (apply bF) | (apply aK; exact rfl) | (apply aJ; exact rfl) | (apply aH) | (apply aD) | (apply bN) | (apply aP; exact rfl; ((refine aL (i := 1) rfl rfl rfl ?_)); refine aB ?_) | (apply aU; exact rfl; ((refine eD rfl rfl (fun h => ?_) (fun h => ?_))) <;> (refine aB ?_)) | (apply bE; exact rfl; ((refine aN (i := 0) rfl cW rfl dT dB eK ?_)); refine aB ?_; refine cE ?_) | (refine aE rfl rfl ?_; ((first | refine aG ?_ | refine aY ?_ | refine aC rfl ?_ | refine dI gG ?_)); refine aB ?_) | (refine bJ rfl rfl ?_; ((first | refine dX cW (fun b => ?_) | refine bL cW (fun b => ?_))); refine aB ?_))
  · refine aZ (.inl rfl) (iN rfl (dC (i := 0) rfl rfl rfl) (bR rfl)) (cA H _ (fun w hs => qC (hs.weaken dB (fun _ h => h))) ?_)
    have hc : eW d = false := by unfold iX at h; cases hc : eW d <;> simp_all
    have e : iX d = 301 := by unfold iX; rw [hc]; rfl
    rw [e]
    exact sC (r' := (⟨[], []⟩, 301)) (by unfold pV; rw [hc]; rfl) k none 0 none 0
  have hc : eW d = true := by unfold iX at h; cases hc : eW d <;> simp_all
  obtain ⟨h64, hmax, hmod, h100, hw⟩ := fX hc
  have HW := Go.Lib.hid hw
  clear hw
  repeat' (first | (refine dK rfl ?_; refine aT fA ?_; refine oQ _ _ _ aO aX (fun v => ?_); refine aB ?_) | (apply aF) | (apply aA) | (apply aV) | (apply aH) | (apply aD) | (apply aP; exact rfl; ((refine aL (i := 2) rfl rfl rfl ?_)); refine aB ?_) | (refine aE rfl rfl ?_; ((first | refine aG ?_ | refine aY ?_ | refine aC rfl ?_ | refine bS rfl ?_)); refine aB ?_))
  rename_i b2
  revert b
  intro b4
  refine tQ 0 rfl aO (fun b7 cap sp hv hl1 hl2 hcap hcapm => ?_)
  subst hv
  refine jB tH ?_
  refine cM [8, 9, 10, 11, 24, 25, 26, 27, 28, 29, 30, 31, 32, 33, 34, 35, 36, 37, 38, 39, 40, 41, 42, 43, 44, 45, 46, 47, 48, 49, 50, 51, 52, 53, 54, 55, 56, 57, 58, 59, 60, 61, 62, 63, 64, 65, 66, 67, 68, 69, 70, 71, 72, 73, 74, 75] (fun m j H' R' => R = R' ∧ ∃ i : Nat, i + m = d.pending.length ∧ j 24 = .int .i64 i ∧ ∃ cur : List UInt8, cur.length = d.bytes.length ∧ lP l d.pending 0 d.bytes = lP l (d.pending.drop i) i cur ∧
    (.blk b7 (bC cur ++ sp) 5 :: .blk b4 [.slice none 0 0, .slice none 0 0] 51 :: .blk b2 [.slice A0 d.bytes.length c0, .slice A2 d.pending.length c2] 51 :: H) = H') d.pending.length eS ⟨rfl, 0, by omega, rfl, d.bytes, rfl, rfl, rfl⟩ ?_
  rintro m j H' R' ⟨hR, i, hi, h24, cur, hcl, hcur, hH⟩
  subst hH; subst hR
  have HC := Go.Lib.hid hcur
  clear hcur
  refine dD (by simp only [eF, List.foldl_cons, List.foldl_nil, List.set_cons_succ, List.set_cons_zero, h24]; rfl) ?_
  repeat' (first | (apply aF) | (apply aA) | (apply aV) | (apply bP) | (apply bF) | (apply cG) | (apply aK; exact rfl) | (apply aJ; exact rfl) | (apply aH) | (apply aD) | (apply aW) | (apply aS) | (apply aP; exact rfl; ((first | refine aL (i := 0) rfl rfl rfl ?_ | refine bD rfl cL rfl ?_)); refine aB ?_) | (apply aU; exact rfl; ((refine bQ rfl rfl (fun h => ?_) (fun h => ?_))) <;> (refine aB ?_)) | (apply gZ; exact rfl; ((refine iB eR rfl aX (List.getElem?_eq_getElem aO) (fun b o A c hI hL => ?_))); refine aB ?_) | (apply bE; exact rfl; ((first | refine aN (i := 0) rfl cW rfl dT dB eK ?_ | refine aN (i := 1) rfl cW rfl dT dB eK ?_)); refine aB ?_; refine cE ?_) | (refine aE rfl rfl ?_; ((first | refine aG ?_ | refine aY ?_ | refine aC rfl ?_ | refine bS rfl ?_ | refine dI gG ?_)); refine aB ?_) | (refine bJ rfl rfl ?_; ((refine bL cW (fun b => ?_))); refine aB ?_))
  · skip
    refine eC fK jN (fun _ _ _ _ _ _ h => h) (List.Sublist.refl _) ?_
    all_goals ((refine bG 0 ?_; ((refine aG ?_)); refine aI ?_))
    all_goals ((refine bG 1 ?_; ((refine aG ?_)); refine aI ?_))
    all_goals ((refine bG 2 ?_; ((refine iP eR rfl aX (List.getElem?_eq_getElem aO) (fun b o hI => ?_))); refine aI ?_))
    all_goals ((refine bG 3 ?_; ((refine bD rfl cL rfl ?_)); refine aI ?_))
    all_goals ((refine bG 4 ?_; ((refine aG ?_)); refine aI ?_))
    all_goals ((refine bG 5 ?_; ((refine aG ?_)); refine aI ?_))
    all_goals ((refine bG 6 ?_; ((refine iP eR rfl aX (List.getElem?_eq_getElem aO) (fun b o hI => ?_))); refine aI ?_))
    all_goals ((refine bG 7 ?_; ((refine bD rfl cL rfl ?_)); refine aI ?_))
    all_goals ((refine bG 8 ?_; ((refine pw_neg rfl ?_)); refine aI ?_))
    all_goals ((refine bG 9 ?_; ((refine pw_amt hI rfl rfl rfl ?_)); refine aI ?_))
    all_goals ((refine bG 10 ?_; ((refine aY ?_)); refine aI ?_))
    all_goals refine iC ?_
    repeat' (first | (apply aF) | (apply aA) | (apply aH) | (apply aD) | (apply aP; exact rfl; ((refine aL (i := 0) rfl rfl rfl ?_)); refine aB ?_) | (refine aE rfl rfl ?_; ((first | refine aG ?_ | refine aY ?_ | refine aC rfl ?_ | refine bS rfl ?_)); refine aB ?_))
    have hwi : 0 ≤ d.pending[i].at_ ∧ d.pending[i].at_.toNat + d.pending[i].data.length ≤ d.bytes.length := HW.out i aO
    repeat' (first | (refine aE rfl rfl ?_; refine zS (a := amt l[i]) (m := d.pending[i].data.length + 2) rfl (by (first | rfl | simp [ev])) aO (fun r hr hrlt => ?_); refine aB ?_) | (apply aF) | (apply aA) | (apply aV) | (apply bF) | (apply aK; exact rfl) | (apply aJ; exact rfl) | (apply aH) | (apply aD) | (apply bU) | (apply aU; exact rfl; ((refine bM rfl rfl aO aO ?_)); refine aB ?_) | (apply aU; exact rfl; ((first | refine lY rfl rfl (fun h => ?_) (fun h => ?_) | refine fD rfl rfl (fun h => ?_) (fun h => ?_))) <;> (refine aB ?_)) | (refine aE rfl rfl ?_; ((first | refine aG ?_ | refine aY ?_)); refine aB ?_))
    all_goals
      have hnext : lP l (d.pending.drop i) i cur = lP l (d.pending.drop (i + 1)) (i + 1) (gA cur d.pending[i] r) := by
        rw [List.drop_eq_getElem_cons (show i < d.pending.length by omega), lP, (show tJ l i = amt l[i] by simp [tJ, List.getElem?_eq_getElem (show i < l.length by omega)]), ← show r = _ from hr]
      have HN := Go.Lib.hid hnext
      clear hnext
    · skip
      refine eC fK jN (fun _ _ _ _ _ _ h => h) (List.Sublist.cons_cons _ fE) ?_
      all_goals ((refine bY 0 (List.Sublist.cons_cons _ fE) ?_; ((refine aG ?_)); refine aI ?_))
      all_goals ((refine bY 1 (List.Sublist.cons_cons _ fE) ?_; ((refine aC rfl ?_)); refine aI ?_))
      all_goals ((refine bY 2 (List.Sublist.cons_cons _ fE) ?_; ((refine aL (i := 0) rfl rfl rfl ?_)); refine aI ?_))
      all_goals ((refine bY 3 (List.Sublist.cons_cons _ fE) ?_; ((refine jY rfl rfl rfl aO aO aO (fun o' ho' => ?_))); refine aI ?_))
      all_goals ((refine bY 4 (List.Sublist.cons_cons _ fE) ?_; ((refine aC rfl ?_)); refine aI ?_))
      all_goals ((refine bY 5 (List.Sublist.cons_cons _ fE) ?_; ((refine aL (i := 0) rfl rfl rfl ?_)); refine aI ?_))
      all_goals ((refine bY 6 (List.Sublist.cons_cons _ fE) ?_; ((refine aG ?_)); refine aI ?_))
      all_goals ((refine bY 7 (List.Sublist.cons_cons _ fE) ?_; ((refine fY rfl aX rfl rfl rfl rfl aO aO aO (fun A8 c8 => ?_))); refine aI ?_))
      -- left: [8]; ready: [8]: ['call copy']
      refine mY 8 ?_
      refine rC (i := 1) rfl rfl aX rfl (fun h => by simp; omega) ?_
      refine ⟨.inl (fun w hs => hs.weaken (List.Sublist.cons_cons _ fE) (fun p hp => hp)), ?_⟩
      refine kU jN ?_
      repeat' (first | (apply aA) | (apply aH) | (apply aD) | (apply bU) | (apply aU; exact rfl; ((refine bM rfl rfl aO aO ?_)); refine aB ?_) | (refine aE rfl rfl ?_; ((refine aG ?_)); refine aB ?_))
      refine cJ (m - 1) (.blk b7 (bC (gA cur d.pending[i] r) ++ sp) 5 :: .blk b4 [.slice none 0 0, .slice none 0 0] 51 :: .blk b2 [.slice A0 d.bytes.length c0, .slice A2 d.pending.length c2] 51 :: H) R aO eS ⟨rfl, i + 1, by omega, rfl, gA cur d.pending[i] r, by rw [iV _ _ _ aO]; exact hcl, HC.out.trans HN.out, rfl⟩ (fun w hs => ?_)
      have e := mO cur ((d.pending[i].data.take (r : Int).toNat).drop (0 : Int).toNat) sp d.pending[i].at_.toNat ((d.bytes.length : Int).toNat - d.pending[i].at_.toNat) o' (by simp [hcl]) ho' (by simp; omega)
      have e2 : gA cur d.pending[i] r = pI cur d.pending[i].at_.toNat ((d.pending[i].data.take (r : Int).toNat).drop (0 : Int).toNat) := by
        unfold gA
        rw [if_pos aO]; simp
      rw [e2, ← e]
      exact hs.weaken eB hP
    · skip
      refine eC fK jN (fun _ _ _ _ _ _ h => h) (List.Sublist.cons_cons _ fE) ?_
      all_goals ((refine bY 0 (List.Sublist.cons_cons _ fE) ?_; ((refine aG ?_)); refine aI ?_))
      all_goals ((refine bY 1 (List.Sublist.cons_cons _ fE) ?_; ((refine aC rfl ?_)); refine aI ?_))
      all_goals ((refine bY 2 (List.Sublist.cons_cons _ fE) ?_; ((refine aL (i := 0) rfl rfl rfl ?_)); refine aI ?_))
      all_goals ((refine bY 3 (List.Sublist.cons_cons _ fE) ?_; ((refine bM rfl rfl aO aO ?_)); refine aI ?_))
      all_goals ((refine bY 4 (List.Sublist.cons_cons _ fE) ?_; ((refine jY rfl rfl rfl aO aO aO (fun o' ho' => ?_))); refine aI ?_))
      all_goals ((refine bY 5 (List.Sublist.cons_cons _ fE) ?_; ((refine aC rfl ?_)); refine aI ?_))
      all_goals ((refine bY 6 (List.Sublist.cons_cons _ fE) ?_; ((refine aL (i := 0) rfl rfl rfl ?_)); refine aI ?_))
      all_goals ((refine bY 7 (List.Sublist.cons_cons _ fE) ?_; ((refine fY rfl aX rfl rfl rfl rfl aO aO aO (fun A8 c8 => ?_))); refine aI ?_))
      -- left: [8]; ready: [8]: ['call copy']
      refine mY 8 ?_
      refine rC (i := 1) rfl rfl aX rfl (fun h => by simp; omega) ?_
      refine ⟨.inl (fun w hs => hs.weaken (List.Sublist.cons_cons _ fE) (fun p hp => hp)), ?_⟩
      refine kU jN ?_
      repeat' (first | (apply aA) | (apply aH) | (apply aD) | (apply bU) | (apply aU; exact rfl; ((refine bM rfl rfl aO aO ?_)); refine aB ?_) | (refine aE rfl rfl ?_; ((refine aG ?_)); refine aB ?_))
      refine cJ (m - 1) (.blk b7 (bC (gA cur d.pending[i] r) ++ sp) 5 :: .blk b4 [.slice none 0 0, .slice none 0 0] 51 :: .blk b2 [.slice A0 d.bytes.length c0, .slice A2 d.pending.length c2] 51 :: H) R aO eS ⟨rfl, i + 1, by omega, rfl, gA cur d.pending[i] r, by rw [iV _ _ _ aO]; exact hcl, HC.out.trans HN.out, rfl⟩ (fun w hs => ?_)
      have e := mO cur ((d.pending[i].data.take (d.pending[i].data.length : Int).toNat).drop (1 : Int).toNat) sp (d.pending[i].at_ + 1).toNat ((d.bytes.length : Int).toNat - (d.pending[i].at_ + 1).toNat) o' (by simp [hcl]) ho' (by simp; omega)
      have e2 : gA cur d.pending[i] r = pI cur (d.pending[i].at_ + 1).toNat ((d.pending[i].data.take (d.pending[i].data.length : Int).toNat).drop (1 : Int).toNat) := by
        unfold gA
        rw [if_neg aO, if_pos aO, show (d.pending[i].at_ + 1).toNat = d.pending[i].at_.toNat + 1 by omega]; simp
      rw [e2, ← e]
      exact hs.weaken eB hP
    · refine cJ (m - 1) (.blk b7 (bC (gA cur d.pending[i] r) ++ sp) 5 :: .blk b4 [.slice none 0 0, .slice none 0 0] 51 :: .blk b2 [.slice A0 d.bytes.length c0, .slice A2 d.pending.length c2] 51 :: H) R aO eS ⟨rfl, i + 1, by omega, rfl, gA cur d.pending[i] r, by rw [iV _ _ _ aO]; exact hcl, HC.out.trans HN.out, rfl⟩ (fun w hs => ?_)
      have e2 : gA cur d.pending[i] r = cur := by
        unfold gA
        rw [if_neg aO, if_neg aO]
      rw [e2]
      exact hs.weaken eB hP
  · skip
    have hwi : 0 ≤ d.pending[i].at_ ∧ d.pending[i].at_.toNat + d.pending[i].data.length ≤ d.bytes.length := HW.out i aO
    repeat' (first | (refine aE rfl rfl ?_; refine zS (a := 0) (m := d.pending[i].data.length + 2) rfl (by (first | rfl | simp [ev])) aO (fun r hr hrlt => ?_); refine aB ?_) | (apply aF) | (apply aA) | (apply aV) | (apply bF) | (apply aK; exact rfl) | (apply aJ; exact rfl) | (apply aH) | (apply aD) | (apply bU) | (apply aU; exact rfl; ((refine bM rfl rfl aO aO ?_)); refine aB ?_) | (apply aU; exact rfl; ((first | refine lY rfl rfl (fun h => ?_) (fun h => ?_) | refine fD rfl rfl (fun h => ?_) (fun h => ?_))) <;> (refine aB ?_)) | (refine aE rfl rfl ?_; ((first | refine aG ?_ | refine aY ?_)); refine aB ?_))
    all_goals
      have hnext : lP l (d.pending.drop i) i cur = lP l (d.pending.drop (i + 1)) (i + 1) (gA cur d.pending[i] r) := by
        rw [List.drop_eq_getElem_cons (show i < d.pending.length by omega), lP, (show tJ l i = 0 by simp [tJ, List.getElem?_eq_none (show l.length ≤ i by omega)]), ← show r = _ from hr]
      have HN := Go.Lib.hid hnext
      clear hnext
    · skip
      refine eC fK jN (fun _ _ _ _ _ _ h => h) (List.Sublist.cons_cons _ fE) ?_
      all_goals ((refine bY 0 (List.Sublist.cons_cons _ fE) ?_; ((refine aG ?_)); refine aI ?_))
      all_goals ((refine bY 1 (List.Sublist.cons_cons _ fE) ?_; ((refine aC rfl ?_)); refine aI ?_))
      all_goals ((refine bY 2 (List.Sublist.cons_cons _ fE) ?_; ((refine aL (i := 0) rfl rfl rfl ?_)); refine aI ?_))
      all_goals ((refine bY 3 (List.Sublist.cons_cons _ fE) ?_; ((refine jY rfl rfl rfl aO aO aO (fun o' ho' => ?_))); refine aI ?_))
      all_goals ((refine bY 4 (List.Sublist.cons_cons _ fE) ?_; ((refine aC rfl ?_)); refine aI ?_))
      all_goals ((refine bY 5 (List.Sublist.cons_cons _ fE) ?_; ((refine aL (i := 0) rfl rfl rfl ?_)); refine aI ?_))
      all_goals ((refine bY 6 (List.Sublist.cons_cons _ fE) ?_; ((refine aG ?_)); refine aI ?_))
      all_goals ((refine bY 7 (List.Sublist.cons_cons _ fE) ?_; ((refine fY rfl aX rfl rfl rfl rfl aO aO aO (fun A8 c8 => ?_))); refine aI ?_))
      -- left: [8]; ready: [8]: ['call copy']
      refine mY 8 ?_
      refine rC (i := 1) rfl rfl aX rfl (fun h => by simp; omega) ?_
      refine ⟨.inl (fun w hs => hs.weaken (List.Sublist.cons_cons _ fE) (fun p hp => hp)), ?_⟩
      refine kU jN ?_
      repeat' (first | (apply aA) | (apply aH) | (apply aD) | (apply bU) | (apply aU; exact rfl; ((refine bM rfl rfl aO aO ?_)); refine aB ?_) | (refine aE rfl rfl ?_; ((refine aG ?_)); refine aB ?_))
      refine cJ (m - 1) (.blk b7 (bC (gA cur d.pending[i] r) ++ sp) 5 :: .blk b4 [.slice none 0 0, .slice none 0 0] 51 :: .blk b2 [.slice A0 d.bytes.length c0, .slice A2 d.pending.length c2] 51 :: H) R aO eS ⟨rfl, i + 1, by omega, rfl, gA cur d.pending[i] r, by rw [iV _ _ _ aO]; exact hcl, HC.out.trans HN.out, rfl⟩ (fun w hs => ?_)
      have e := mO cur ((d.pending[i].data.take (r : Int).toNat).drop (0 : Int).toNat) sp d.pending[i].at_.toNat ((d.bytes.length : Int).toNat - d.pending[i].at_.toNat) o' (by simp [hcl]) ho' (by simp; omega)
      have e2 : gA cur d.pending[i] r = pI cur d.pending[i].at_.toNat ((d.pending[i].data.take (r : Int).toNat).drop (0 : Int).toNat) := by
        unfold gA
        rw [if_pos aO]; simp
      rw [e2, ← e]
      exact hs.weaken eB hP
    · skip
      refine eC fK jN (fun _ _ _ _ _ _ h => h) (List.Sublist.cons_cons _ fE) ?_
      all_goals ((refine bY 0 (List.Sublist.cons_cons _ fE) ?_; ((refine aG ?_)); refine aI ?_))
      all_goals ((refine bY 1 (List.Sublist.cons_cons _ fE) ?_; ((refine aC rfl ?_)); refine aI ?_))
      all_goals ((refine bY 2 (List.Sublist.cons_cons _ fE) ?_; ((refine aL (i := 0) rfl rfl rfl ?_)); refine aI ?_))
      all_goals ((refine bY 3 (List.Sublist.cons_cons _ fE) ?_; ((refine bM rfl rfl aO aO ?_)); refine aI ?_))
      all_goals ((refine bY 4 (List.Sublist.cons_cons _ fE) ?_; ((refine jY rfl rfl rfl aO aO aO (fun o' ho' => ?_))); refine aI ?_))
      all_goals ((refine bY 5 (List.Sublist.cons_cons _ fE) ?_; ((refine aC rfl ?_)); refine aI ?_))
      all_goals ((refine bY 6 (List.Sublist.cons_cons _ fE) ?_; ((refine aL (i := 0) rfl rfl rfl ?_)); refine aI ?_))
      all_goals ((refine bY 7 (List.Sublist.cons_cons _ fE) ?_; ((refine fY rfl aX rfl rfl rfl rfl aO aO aO (fun A8 c8 => ?_))); refine aI ?_))
      -- left: [8]; ready: [8]: ['call copy']
      refine mY 8 ?_
      refine rC (i := 1) rfl rfl aX rfl (fun h => by simp; omega) ?_
      refine ⟨.inl (fun w hs => hs.weaken (List.Sublist.cons_cons _ fE) (fun p hp => hp)), ?_⟩
      refine kU jN ?_
      repeat' (first | (apply aA) | (apply aH) | (apply aD) | (apply bU) | (apply aU; exact rfl; ((refine bM rfl rfl aO aO ?_)); refine aB ?_) | (refine aE rfl rfl ?_; ((refine aG ?_)); refine aB ?_))
      refine cJ (m - 1) (.blk b7 (bC (gA cur d.pending[i] r) ++ sp) 5 :: .blk b4 [.slice none 0 0, .slice none 0 0] 51 :: .blk b2 [.slice A0 d.bytes.length c0, .slice A2 d.pending.length c2] 51 :: H) R aO eS ⟨rfl, i + 1, by omega, rfl, gA cur d.pending[i] r, by rw [iV _ _ _ aO]; exact hcl, HC.out.trans HN.out, rfl⟩ (fun w hs => ?_)
      have e := mO cur ((d.pending[i].data.take (d.pending[i].data.length : Int).toNat).drop (1 : Int).toNat) sp (d.pending[i].at_ + 1).toNat ((d.bytes.length : Int).toNat - (d.pending[i].at_ + 1).toNat) o' (by simp [hcl]) ho' (by simp; omega)
      have e2 : gA cur d.pending[i] r = pI cur (d.pending[i].at_ + 1).toNat ((d.pending[i].data.take (d.pending[i].data.length : Int).toNat).drop (1 : Int).toNat) := by
        unfold gA
        rw [if_neg aO, if_pos aO, show (d.pending[i].at_ + 1).toNat = d.pending[i].at_.toNat + 1 by omega]; simp
      rw [e2, ← e]
      exact hs.weaken eB hP
    · refine cJ (m - 1) (.blk b7 (bC (gA cur d.pending[i] r) ++ sp) 5 :: .blk b4 [.slice none 0 0, .slice none 0 0] 51 :: .blk b2 [.slice A0 d.bytes.length c0, .slice A2 d.pending.length c2] 51 :: H) R aO eS ⟨rfl, i + 1, by omega, rfl, gA cur d.pending[i] r, by rw [iV _ _ _ aO]; exact hcl, HC.out.trans HN.out, rfl⟩ (fun w hs => ?_)
      have e2 : gA cur d.pending[i] r = cur := by
        unfold gA
        rw [if_neg aO, if_neg aO]
      rw [e2]
      exact hs.weaken eB hP
  · have hie : i = d.pending.length := by omega
    have hcr : lP l d.pending 0 d.bytes = cur := by
      rw [HC.out, hie, List.drop_length]; rfl
    have k' := sC (r' := (⟨cur, []⟩, 0)) (by unfold pV; rw [hc, hcr]; rfl) k (some ⟨b7, 0, none⟩) cap none 0
    simp only [dv, jH, hcl, List.length_nil] at k'
    refine aZ (.inl rfl) (iN rfl (dC (i := 1) rfl rfl rfl) (bR rfl)) (cA H _ (fun w hs => ?_) k')
    have h2 := (hs.learn (Cx (bC cur) cur) (fun s _ => yB _ s)).blk_stays (i := 0) (n := d.bytes.length) (c := cap) rfl aX hcl.symm hcap (by simp only [eO]; simp only [maxLen] at hcapm; omega)
    exact ((h2.sl_nil DW).weaken eB (fun p hp => by
      simp only [List.mem_cons] at hp ⊢
      rcases hp with hp | hp | hp
      · simp [hp]
      · simp [hp]
      · simp [hp]))
end Go.Proofs.YtggdljhmbckpmaaGreat
namespace Go.Proofs.YtggdljhmbckpmaaGreat
open Go Go.RowKit
set_option maxRecDepth 100000
set_option maxHeartbeats 800000

theorem t9 {w0 : World} {H : List Hp} {R : List MP} {K : Value → List Hp → List MP → Prop} (i b cap m l : Nat) (xs : List UInt8) (hi : H[i]? = some (.row (.slice (some ⟨b, 0, none⟩) m cap) 5 1 m (bC xs))) (hml : m = xs.length) (hmc : m ≤ cap) (hl : l < m) (hb : xs.length ≤ 9223372036854775807)
    (k : K (.int .u32 (jU (xs.drop l) : Nat)) H R) : CallsK Tryz.prog w0 115 #[.slice (some ⟨b, l, none⟩) (m - l) (cap - l)] H R K := by
  refine vW (.int .u32 (jU (xs.drop l) : Nat)) [Sl (.slice (some ⟨b, l, none⟩) (m - l) (cap - l)) (xs.drop l)] (fun w1 => ?_) (fun w hs p hp => ?_) k
  · exact yL _ _ _ (xs.drop l) (by simp [hml]) (by simp; omega) dB rfl
  · simp at hp; subst hp
    have h1 := hs.full_row hi
    have h2 := sl_cut (A := some ⟨b, 0, none⟩) (n := m) (c := cap) (R := [Sl (.slice (some ⟨b, 0, none⟩) m cap) xs]) (xs := xs) dB l xs.length aO aO (s := sM w) (fun q hq => by simp at hq; subst hq; exact h1)
    rw [if_neg aO] at h2
    simp only [Option.map_some, Addr.add_mk, List.take_length] at h2
    subst hml
    simpa [Rep.size] using h2

section
variable {P : Program} {w0 : World} {E : List Value} {H : List Hp} {R : List MP} {ty : TypeId} {K : Value → List MP → Prop}
theorem uT {s d : TypeId} {x : Operand} {k : IntKind} {ds : TypeDesc} {a : Nat} [hs : TyU P s ds] [hd : TyU P d (.int .u32)] (hx : ev E x = .int k (a : Int)) (ha : a < 4294967296) (kk : K (.int .u32 (a : Int)) R) : PW P w0 E (.convert s d x) ty H R K :=
  lN (hs := hs) (hd := hd) hx rfl (by rw [Nat.mod_eq_of_lt (by simpa [IntKind.bits] using ha)]; exact kk)
end
def nP (epoch seq n : Nat) : List UInt8 := [167] ++ lZ epoch ++ lZ seq ++ lZ n
def lW (epoch seq : Nat) (data : List UInt8) : List UInt8 :=
  nP epoch seq data.length ++ lZ (jU ((nP epoch seq data.length).drop 1)) ++ data ++ lZ (jU data)
theorem qD (e s n : Nat) : (nP e s n).length = 13 := by simp [nP, lZ]
theorem pH (e s : Nat) (data : List UInt8) : (lW e s data).length = 21 + data.length := by simp [lW, nP, lZ]; omega

theorem whole_k {w0 : World} {H : List Hp} {R : List MP} {K : Value → List Hp → List MP → Prop} (A : Option Addr) (c : Nat) (data : List UInt8) (epoch seq : Nat) (he : epoch < 4294967296) (hs : seq < 4294967296) (hb : data.length ≤ 1000000)
    (hm : Sl (.slice A data.length c) data ∈ R)
    (k : ∀ v', K v' (.row v' 5 1 (lW epoch seq data).length (bC (lW epoch seq data)) :: H) R) : CallsK Tryz.prog w0 57 #[.int .i64 (epoch : Int), .int .i64 (seq : Int), .slice A data.length c] H R K := by
  refine bV Tryz.func57 rfl Tryz.ntmps57 fI ?_
  repeat' (first | (apply aF) | (apply aA) | (apply aV) | (apply aH) | (apply aD) | (refine aE rfl rfl ?_; ((first | refine aG ?_ | refine aY ?_ | refine bS rfl ?_)); refine aB ?_) | (refine bJ rfl rfl ?_; ((refine bK cQ fP rfl (fun b => ?_))); refine aB ?_))
  rename_i b1
  refine eJ (.row (.slice (some ⟨b1, 0, none⟩) 1 1) 5 1 1 [.int .u8 167] :: .blk b [.int .i64 (epoch : Int), .int .i64 (seq : Int), .int .i64 (data.length : Int)] 3 :: H) R (fun w hs => ((hs.torow (i := 1) (cs := [.int .u8 167]) (sp := []) (n := 1) (cap := 1) (size := 1) rfl rfl rfl aO cQ)).perm (List.Perm.swap _ _ _)) ?_
  refine pC 4 ?_
  iterate 3
    apply iK
    repeat' (first | (refine aE rfl rfl ?_; refine tX rfl rfl aO aO ?_; refine aB ?_) | (refine aE rfl rfl ?_; refine uT rfl aO ?_; refine aB ?_) | (refine dK rfl ?_; refine aT fA ?_; refine nA _ _ _ _ aO aO (fun v => ?_); refine aB ?_) | (apply aF) | (apply aA) | (apply aV) | (apply bF) | (apply aK; exact rfl) | (apply aH) | (apply aD) | (apply bU) | (apply aP; exact rfl; ((refine aL (i := 1) rfl rfl rfl ?_)); refine aB ?_) | (apply aU; exact rfl; ((refine bM rfl rfl aO aO ?_)); refine aB ?_) | (apply aU; exact rfl; ((refine bQ rfl rfl (fun h => ?_) (fun h => ?_))) <;> (first | (exfalso; omega) | refine aB ?_)) | (refine aE rfl rfl ?_; ((first | refine aG ?_ | refine aY ?_)); refine aB ?_))
    apply kH
  apply iK
  repeat' (first | (apply aF) | (apply aA) | (apply cG) | (apply aJ; exact rfl) | (apply aH) | (apply aD) | (apply aW) | (apply aS) | (apply aU; exact rfl; ((refine bQ rfl rfl (fun h => ?_) (fun h => ?_))) <;> (first | (exfalso; omega) | refine aB ?_)) | (refine aE rfl rfl ?_; ((refine aG ?_)); refine aB ?_))
  refine T_hp (H' := .row v 5 1 13 (bC (nP epoch seq data.length)) :: .blk b [.int .i64 (epoch : Int), .int .i64 (seq : Int), .int .i64 (data.length : Int)] 3 :: H) (by ((simp only [nP, eX]; rfl))) ?_
  refine T_row_at 0 rfl aO (fun b2 c2 hv h1 h2 => ?_)
  subst hv
  repeat' (first | (refine aE rfl rfl ?_; refine jY rfl rfl rfl aO aO aO (fun o' ho' => ?_); obtain rfl : o' = 1 := aO; refine aB ?_) | (refine dK rfl ?_; refine aT fA ?_; refine t9 0 b2 c2 13 1 (nP epoch seq data.length) rfl (by rw [qD]) h1 aO (by rw [qD]; omega) ?_; refine aB ?_))
  refine dK rfl ?_; refine aT fA ?_; refine nA _ 13 (jU ((nP epoch seq data.length).drop 1)) _ aO (sU _) (fun v2 => ?_)
  refine aB ?_
  repeat' (first | (refine bJ rfl rfl ?_; refine gK 0 rfl rfl aX rfl rfl aO aO (fun v3 => ?_); refine aB ?_; refine cE ?_) | (refine dK rfl ?_; refine aT fA ?_; refine sum_k _ _ data aO aX ?_; refine aB ?_) | (apply aF) | (apply aA) | (apply aH) | (apply aD) | (refine aE rfl rfl ?_; ((first | refine aG ?_ | refine aY ?_)); refine aB ?_))
  refine dK rfl ?_; refine aT fA ?_; refine nA _ (13 + 4 + data.length) (jU data) _ aO (sU _) (fun v4 => ?_)
  refine aB ?_
  repeat' (first | (apply bP) | (apply aH) | (apply aD) | (refine aE rfl rfl ?_; ((refine aY ?_)); refine aB ?_))
  refine aZ (.inl rfl) (dP rfl (bR rfl)) (cA _ R (fun w hs => ?_) (k v4))
  have e : bC (nP epoch seq data.length) ++ bC (lZ (jU ((nP epoch seq data.length).drop 1))) ++ bC data ++ bC (lZ (jU data)) = bC (lW epoch seq data) := by simp only [lW, eX]
  have e2 : 13 + 4 + data.length + 4 = (lW epoch seq data).length := by rw [pH]; omega
  rw [e, e2] at hs
  exact hs.weaken eB (fun _ h => h)
end Go.Proofs.YtggdljhmbckpmaaGreat
