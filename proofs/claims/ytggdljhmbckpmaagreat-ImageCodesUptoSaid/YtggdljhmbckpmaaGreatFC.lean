/- Do, Crash, Read: walks. Crash, Read: walks. The bytes of a record: walks. -/
import Derived.Test.YtggdljhmbckpmaaGreatFB
import Derived.Test.YtggdljhmbckpmaaGreatAM
import Derived.Test.YtggdljhmbckpmaaGreatAN
set_option linter.unusedVariables false
set_option linter.unusedSimpArgs false
namespace Go.Proofs.YtggdljhmbckpmaaGreat
open Go Go.RowKit
set_option maxRecDepth 100000
set_option maxHeartbeats 800000

/-- The operations, once they are known to be right. -/
def doL : List DO → Drive → Drive × Int
  | [], d => (d, 0)
  | x :: l, d => if x.kind = 2 then doL l ⟨iO d, []⟩ else if d.pending.length = 100 then (⟨[], []⟩, 2) else doL l ⟨d.bytes, d.pending ++ [⟨x.at_, x.data⟩]⟩
def doD (d : Drive) (l : List DO) : Drive × Int :=
  if eM d then (if l.all (iJ d.bytes.length) then doL l d else (⟨[], []⟩, 1)) else (⟨[], []⟩, 301)
theorem uZ {n : Nat} {x : DO} (h : iJ n x = true) : x.data.length ≤ n ∧ (x.kind ≠ 2 → wOk n ⟨x.at_, x.data⟩ = true) := by
  unfold iJ at h
  split at h
  · have := pG h
    exact ⟨by omega, fun _ => h⟩
  · split at h
    · have := of_decide_eq_true h
      exact ⟨by omega, fun h' => by contradiction⟩
    · cases h

theorem tQ {d : Drive} {x : DW} (h : eM d = true) (hl : d.pending.length < 100) (hx : wOk d.bytes.length x = true) : eM ⟨d.bytes, d.pending ++ [x]⟩ = true := by
  unfold eM at *
  simp only [Bool.and_eq_true, decide_eq_true_eq, List.length_append, List.length_cons, List.length_nil, List.all_append, List.all_cons, List.all_nil, Bool.and_true] at *
  exact ⟨⟨h.1.1, by omega⟩, h.2, hx⟩
theorem do_k {w0 : World} {H : List Hp} {R : List MP} {K : Value → List Hp → List MP → Prop} (A0 : Option Addr) (c0 : Nat) (A2 : Option Addr) (c2 : Nat) (A3 : Option Addr) (c3 : Nat) (d : Drive) (l : List DO) (hb : d.bytes.length ≤ 9223372036854775807) (hp : d.pending.length ≤ 9223372036854775807) (hll : l.length ≤ 9223372036854775807)
    (hm : Sl (.slice A0 d.bytes.length c0) d.bytes ∈ R) (hm2 : Sl (.slice A2 d.pending.length c2) d.pending ∈ R) (hm3 : Sl (.slice A3 l.length c3) l ∈ R)
    (k : KD K (doD d l) H R) : CallsK Tryz.prog w0 65 #[dv A0 c0 A2 c2 d, .slice A3 l.length c3] H R K := by
  refine bX Tryz.func65 rfl Tryz.ntmps65 eZ ?_
  repeat' (first | (refine dS rfl ?_; refine aY fA ?_; refine pI _ _ _ _ d hb hp hm hm2 ?_; refine aB ?_) | (apply aF) | (apply aA) | (apply bN) | (apply bE) | (apply aK; exact rfl) | (apply aI; exact rfl) | (apply aG) | (apply aD) | (apply bO) | (apply aP; exact rfl; ((refine aM (i := 1) rfl rfl rfl ?_)); refine aB ?_) | (apply aU; exact rfl; ((refine eL rfl rfl (fun h => ?_) (fun h => ?_))) <;> (refine aB ?_)) | (apply bD; exact rfl; ((refine aO (i := 0) rfl cW rfl (by rfl) (by simp) (by simp [Value.oneCell']) ?_)); refine aB ?_; refine cA ?_) | (refine aE rfl rfl ?_; ((first | refine aH ?_ | refine aX ?_ | refine cM gP gP ?_ | refine dN gI ?_)); refine aB ?_) | (refine bG rfl rfl ?_; ((first | refine eB cW (fun b => ?_) | refine bK cW (fun b => ?_))); refine aB ?_))
  · refine bC (.inl rfl) (jM rfl (dG (i := 0) rfl rfl rfl) (bS rfl)) (cG H _ (fun w hs => pB (hs.weaken (by simp) (fun _ h => h))) ?_)
    have hc : eM d = false := by unfold jL at h; cases hc : eM d <;> simp_all
    have e : jL d = 301 := by unfold jL; rw [hc]; rfl
    rw [e]
    exact qD (r' := (⟨[], []⟩, 301)) (by unfold doD; rw [hc]; rfl) k none 0 none 0
  have hc : eM d = true := by unfold jL at h; cases hc : eM d <;> simp_all
  repeat' (first | (refine dS rfl ?_; refine aY fA ?_; refine wI 1 _ _ _ _ _ _ _ d l rfl hb hll hm3 (fun hB => ?_) (fun hB => ?_) <;> refine aB ?_) | (apply aF) | (apply aA) | (apply bN) | (apply bE) | (apply aK; exact rfl) | (apply aI; exact rfl) | (apply aG) | (apply aD) | (apply bO) | (apply aP; exact rfl; ((refine aM (i := 1) rfl rfl rfl ?_)); refine aB ?_) | (apply bD; exact rfl; ((refine aO (i := 0) rfl cW rfl (by rfl) (by simp) (by simp [Value.oneCell']) ?_)); refine aB ?_; refine cA ?_) | (refine aE rfl rfl ?_; ((first | refine aX ?_ | refine aC rfl ?_ | refine dN gI ?_)); refine aB ?_))
  · refine bC (.inl rfl) (jM rfl (dG (i := 0) rfl rfl rfl) (bS rfl)) (cG H _ (fun w hs => pB (hs.weaken (by simp) (fun _ h => h))) ?_)
    exact qD (r' := (⟨[], []⟩, 1)) (by unfold doD; rw [hc, hB]; rfl) k none 0 none 0
  obtain ⟨h64, hmax, hmod, h100, hw⟩ := gQ hc
  have HW := Go.Lib.hid hw
  clear hw
  repeat' (first | (refine dS rfl ?_; refine aY fA ?_; refine nA _ _ _ (by omega) aV (fun v => ?_); refine aB ?_; refine jX 0 rfl (fun A' c' hv => ?_); subst hv; refine cA ?_) | (apply aF) | (apply aA) | (apply aT) | (apply aG) | (apply aD) | (apply aP; exact rfl; ((refine aM (i := 2) rfl rfl rfl ?_)); refine aB ?_) | (apply bD; exact rfl; ((refine aO (i := 0) rfl cW rfl (by rfl) (by simp) (by simp [Value.oneCell']) ?_)); refine aB ?_; refine cA ?_) | (refine aE rfl rfl ?_; ((first | refine aH ?_ | refine aC rfl ?_ | refine bQ rfl ?_ | refine dN gI ?_)); refine aB ?_) | (refine bG rfl rfl ?_; ((refine bK cW (fun b => ?_))); refine aB ?_))
  rename_i b2 b4
  have b7 : Nat := 0
  clear b7
  revert b
  intro b7
  refine mZ 139 2 ?_
  refine rV (Cx [] ([] : List DW)) (fun s _ => fT s) ?_
  refine cK [9, 29, 30, 31, 32, 33, 34, 35, 36, 37, 38, 39, 40, 41, 42, 43] (fun m j H' R' => ∃ i : Nat, i + m = d.pending.length ∧ j 29 = .int .i64 i ∧ ∃ pv cs, (Cx cs (d.pending.take i) :: Sl (.slice A' d.bytes.length c') d.bytes :: R) = R' ∧
    (.row pv 139 2 i cs :: .blk b7 [.slice A' d.bytes.length c', pv] 51 :: .blk b4 [.slice none 0 0, .slice none 0 0] 51 :: .blk b2 [.slice A0 d.bytes.length c0, .slice A2 d.pending.length c2] 51 :: H) = H') d.pending.length eE ⟨0, by omega, rfl, _, [], rfl, rfl⟩ ?_
  rintro m j H' R' ⟨i, hi, h29, pv, cs, hR, hH⟩
  subst hH; subst hR
  refine cQ (by simp only [dX, List.foldl_cons, List.foldl_nil, List.set_cons_succ, List.set_cons_zero, h29]; rfl) ?_
  repeat' (first | (apply aF) | (apply aA) | (apply aT) | (apply bE) | (apply bV) | (apply aK; exact rfl) | (apply aI; exact rfl) | (apply aG) | (apply aD) | (apply aS) | (apply aR) | (apply aP; exact rfl; ((first | refine aM (i := 0) rfl rfl rfl ?_ | refine aZ rfl cJ rfl ?_)); refine aB ?_) | (apply aU; exact rfl; ((refine bM rfl rfl (fun h => ?_) (fun h => ?_))) <;> (refine aB ?_)) | (apply gL; exact rfl; ((refine kH eJ rfl aV (List.getElem?_eq_getElem (by omega)) (fun b o A c hI hL => ?_))); refine aB ?_) | (apply bD; exact rfl; ((refine aO (i := 0) rfl cW rfl (by rfl) (by simp) (by simp [Value.oneCell']) ?_)); refine aB ?_; refine cA ?_) | (refine aE rfl rfl ?_; ((first | refine aH ?_ | refine aC rfl ?_ | refine bQ rfl ?_)); refine aB ?_) | (refine bG rfl rfl ?_; ((refine bK cW (fun b => ?_))); refine aB ?_))
  · have hwi : 0 ≤ d.pending[i].at_ ∧ d.pending[i].at_.toNat + d.pending[i].data.length ≤ d.bytes.length := HW.out i (by omega)
    repeat' (first | (refine dS rfl ?_; refine aY fA ?_; refine nA _ _ _ (by omega) aV (fun v => ?_); refine aB ?_; refine jX 0 rfl (fun A5 c5 hv => ?_); subst hv; refine cA ?_) | (apply aA) | (apply aG) | (apply aD) | (apply aP; exact rfl; ((first | refine aM (i := 0) rfl rfl rfl ?_ | refine aM (i := 2) rfl rfl rfl ?_)); refine aB ?_) | (apply bD; exact rfl; ((refine aO (i := 0) rfl cW rfl (by rfl) (by simp) (by simp [Value.oneCell']) ?_)); refine aB ?_; refine cA ?_) | (refine aE rfl rfl ?_; ((refine aC rfl ?_)); refine aB ?_) | (refine bG rfl rfl ?_; ((refine bH (by decide) fD rfl (fun b => ?_))); refine aB ?_))
    refine bG rfl rfl ?_
    refine cY 2 0 rfl rfl rfl rfl (by decide) rfl (by simp [Value.oneCell']) (by omega) (by omega) (fun pv' => ?_)
    refine aB ?_; refine cA ?_
    refine gA 2 rfl (fun A6 c6 hv => ?_)
    subst hv
    refine iG (Cx (cs ++ [.int .i64 d.pending[i].at_, .slice A5 d.pending[i].data.length c5]) (d.pending.take i ++ [d.pending[i]])) (fun s hs => eN (hs (Cx cs (d.pending.take i)) aV) ⟨A5, c5, rfl, hI, hs (Sl (.slice A5 d.pending[i].data.length c5) d.pending[i].data) aV⟩) ?_
    repeat' (first | (apply aA) | (apply aG) | (apply aD) | (apply bP) | (apply aU; exact rfl; ((refine bI rfl rfl (by omega) (by omega) ?_)); refine aB ?_) | (apply bD; exact rfl; ((refine aO (i := 3) rfl cW rfl (by rfl) (by simp) (by simp [Value.oneCell']) ?_)); refine aB ?_; refine cA ?_) | (refine aE rfl rfl ?_; ((first | refine aH ?_ | refine aC rfl ?_)); refine aB ?_))
    refine cE (m - 1) (.row (.slice A6 (i + 1) c6) 139 2 (i + 1) (cs ++ [.int .i64 d.pending[i].at_, .slice A5 d.pending[i].data.length c5]) :: .blk b7 [.slice A' d.bytes.length c', .slice A6 (i + 1) c6] 51 :: .blk b4 [.slice none 0 0, .slice none 0 0] 51 :: .blk b2 [.slice A0 d.bytes.length c0, .slice A2 d.pending.length c2] 51 :: H) (Cx (cs ++ [.int .i64 d.pending[i].at_, .slice A5 d.pending[i].data.length c5]) (d.pending.take (i + 1)) :: Sl (.slice A' d.bytes.length c') d.bytes :: R) (by omega) eE ⟨i + 1, by omega, rfl, .slice A6 (i + 1) c6, _, rfl, rfl⟩ (fun w hs => hs.weaken bU (fun p hp => ?_))
    rw [List.take_succ_eq_append_getElem (show i < d.pending.length by omega)] at hp
    simp only [List.mem_cons] at hp ⊢
    rcases hp with hp | hp | hp
    · exact .inl hp
    · simp [hp]
    · simp [hp]
  have hie : i = d.pending.length := by omega
  subst hie
  refine oL 0 rfl (fun Ap cp hv => ?_)
  subst hv
  refine dT _ (Cx cs d.pending :: Sl (.slice A' d.bytes.length c') d.bytes :: R) (fun w hs => hs.weaken (List.Sublist.refl _) (fun p hp => by rw [List.take_length]; exact hp)) ?_
  refine cK [5, 11, 46, 47, 48, 49, 50, 51, 52, 53, 54, 55, 56, 57, 58, 59, 60, 61, 62, 63, 64, 65, 66, 67, 68, 69, 70, 71, 72] (fun m j H' R' => ∃ i : Nat, i + m = l.length ∧ j 46 = .int .i64 i ∧ ∃ (cur : Drive) (Ap : Option Addr) (cp : Nat) (cs : List Value) (A' : Option Addr) (c' : Nat), doL l d = doL (l.drop i) cur ∧ cur.bytes.length = d.bytes.length ∧ eM cur = true ∧ (Cx cs cur.pending :: Sl (.slice A' cur.bytes.length c') cur.bytes :: R) = R' ∧
    (.row (.slice Ap cur.pending.length cp) 139 2 cur.pending.length cs :: .blk b7 [.slice A' cur.bytes.length c', .slice Ap cur.pending.length cp] 51 :: .blk b4 [.slice none 0 0, .slice none 0 0] 51 :: .blk b2 [.slice A0 d.bytes.length c0, .slice A2 d.pending.length c2] 51 :: H) = H') l.length eE ⟨0, by omega, rfl, d, Ap, cp, cs, A', c', rfl, rfl, hc, rfl, rfl⟩ ?_
  clear hi h29 h
  rintro m2 j2 H' R' ⟨i, hi, h46, cur, Ap, cp, cs, A', c', hdo, hcl, hcc, hR, hH⟩
  subst hH; subst hR
  refine cQ (by simp only [dX, List.foldl_cons, List.foldl_nil, List.set_cons_succ, List.set_cons_zero, h46]; rfl) ?_
  have HD := Go.Lib.hid hdo
  clear hdo
  have hstep : ∀ (hil : i < l.length), l.drop i = l[i] :: l.drop (i + 1) := fun hil => List.drop_eq_getElem_cons hil
  have HS := Go.Lib.hid hstep
  clear hstep
  repeat' (first | (apply aF) | (apply aA) | (apply aT) | (apply bN) | (apply bE) | (apply bV) | (apply aK; exact rfl) | (apply aI; exact rfl) | (apply aG) | (apply aD) | (apply bO) | (apply aS) | (apply dO) | (apply aR) | (apply aP; exact rfl; ((first | refine aM (i := 0) rfl rfl rfl ?_ | refine aM (i := 1) rfl rfl rfl ?_ | refine aM (i := 2) rfl rfl rfl ?_ | refine aZ rfl cJ rfl ?_)); refine aB ?_) | (apply aU; exact rfl; ((first | refine bM rfl rfl (fun h => ?_) (fun h => ?_) | refine fS rfl rfl (fun h => ?_) (fun h => ?_))) <;> (refine aB ?_)) | (apply gL; exact rfl; ((refine oZ eJ rfl aV (List.getElem?_eq_getElem (by omega)) (fun b o A c hI hI2 hL => ?_))); refine aB ?_) | (apply bD; exact rfl; ((first | refine aO (i := 0) rfl cW rfl (by rfl) (by simp) (by simp [Value.oneCell']) ?_ | refine aO (i := 2) rfl cW rfl (by rfl) (by simp) (by simp [Value.oneCell']) ?_ | refine aO (i := 3) rfl cW rfl (by rfl) (by simp) (by simp [Value.oneCell']) ?_)); refine aB ?_; refine cA ?_) | (refine aE rfl rfl ?_; ((first | refine aX ?_ | refine aC rfl ?_ | refine bQ rfl ?_ | refine dN gI ?_)); refine aB ?_) | (refine bG rfl rfl ?_; ((refine bK cW (fun b => ?_))); refine aB ?_))
  · refine zW 1 rfl rfl (by decide) aV (fun A7 c7 hv => ?_)
    cases hv
    refine cA ?_
    repeat' (first | (refine dS rfl ?_; refine aY fA ?_; refine wX _ _ _ _ cur hcc aV aV (fun v => ?_); refine aB ?_; refine jX 0 rfl (fun A8 c8 hv => ?_); subst hv; refine cA ?_) | (apply aA) | (apply bV) | (apply aG) | (apply aD) | (apply aS) | (apply aR) | (apply aU; exact rfl; ((refine bI rfl rfl (by omega) (by omega) ?_)); refine aB ?_) | (apply bD; exact rfl; ((refine aO (i := 1) rfl cW rfl (by rfl) (by simp) (by simp [Value.oneCell']) ?_)); refine aB ?_; refine cA ?_) | (refine aE rfl rfl ?_; ((first | refine aH ?_ | refine dN gI ?_)); refine aB ?_))
    refine cE (m2 - 1) _ _ (by omega) eE ⟨i + 1, by omega, rfl, ⟨iO cur, []⟩, none, 0, [], A8, c8, ?_, ?_, ?_, rfl, rfl⟩ (fun w hs => ?_)
    · rw [HD.out, HS.out (by omega), doL, if_pos (by assumption)]
    · rw [gR hcc]; exact hcl
    · have := gR hcc
      simp [eM]; omega
    · exact ((hs.weaken (List.sublist_cons_self _ _) (R' := Sl (.slice A8 (iO cur).length c8) (iO cur) :: R) (fun p hp => by
        simp only [List.mem_cons] at hp ⊢
        rcases hp with hp | hp
        · exact .inl hp
        · simp [hp])).learn (Cx [] ([] : List DW)) (fun s _ => fT s)).nilrow 139 2
  · refine bC (.inl rfl) (jM rfl (dG (i := 3) rfl rfl rfl) (bS rfl)) (cG H (iC none 0 none 0 ⟨[], []⟩ R) (fun w hs => pB (show S w0 w H R from hs.weaken (H' := H) (R' := R) bU cZ)) ?_)
    refine qD (r' := (⟨[], []⟩, 2)) ?_ k none 0 none 0
    unfold doD
    rw [hc, hB]
    simp only [if_true]
    rw [HD.out, HS.out (by omega), doL, if_neg (by assumption), if_pos (by omega)]
  · have hri : iJ d.bytes.length l[i] = true := List.all_eq_true.1 hB _ (List.getElem_mem (by omega))
    obtain ⟨hdl, hok⟩ := uZ hri
    have hcp := (gQ hcc).2.2.2.1
    have hk2 : l[i].kind ≠ 2 := by assumption
    refine dQ eT (by decide +kernel) (fun _ _ _ _ _ _ h => h) (List.Sublist.cons_cons _ (List.Sublist.cons _ (List.Sublist.refl _))) ?_
    all_goals ((refine bR 0 (List.Sublist.cons_cons _ (List.Sublist.cons _ (List.Sublist.refl _))) ?_; ((refine aC rfl ?_)); refine aJ ?_))
    all_goals ((refine bR 1 (List.Sublist.cons_cons _ (List.Sublist.cons _ (List.Sublist.refl _))) ?_; ((refine aM (i := 1) rfl rfl rfl ?_)); refine aJ ?_))
    all_goals ((refine bR 2 (List.Sublist.cons_cons _ (List.Sublist.cons _ (List.Sublist.refl _))) ?_; ((refine aC rfl ?_)); refine aJ ?_))
    all_goals ((refine bR 3 (List.Sublist.cons_cons _ (List.Sublist.cons _ (List.Sublist.refl _))) ?_; ((refine aM (i := 0) rfl rfl rfl ?_)); refine aJ ?_))
    all_goals ((refine bR 4 (List.Sublist.cons_cons _ (List.Sublist.cons _ (List.Sublist.refl _))) ?_; ((refine aC rfl ?_)); refine aJ ?_))
    all_goals ((refine bR 5 (List.Sublist.cons_cons _ (List.Sublist.cons _ (List.Sublist.refl _))) ?_; ((refine aM (i := 0) rfl rfl rfl ?_)); refine aJ ?_))
    -- left: [6, 7, 8, 9, 10, 11]; ready: [6]: ['call']
    refine fN 6 ?_
    refine aY fA ?_
    refine nA _ _ _ (by omega) aV (fun v => ?_)
    refine ⟨.inl (fun w hs => hs.weaken (List.Sublist.cons _ (List.Sublist.cons_cons _ (List.Sublist.cons _ (List.Sublist.refl _)))) (fun p hp => hp)), ?_⟩
    refine aJ ?_
    refine zK 0 rfl (fun A5 c5 hv => ?_)
    subst hv
    refine jC ?_
    refine dJ _ (List.Sublist.refl _) (fun p hp => List.mem_cons_of_mem _ hp) ?_
    all_goals ((refine bR 7 (List.Sublist.cons_cons _ (List.Sublist.cons _ (List.Sublist.refl _))) ?_; ((refine dN gI ?_)); refine aJ ?_))
    -- left: [8, 9, 10, 11]; ready: [8]: ['buildSlice']
    refine lL 8 ?_
    refine bH (by decide) fD rfl (fun b5 => ?_)
    refine ⟨.inl (fun w hs => hs.weaken (List.Sublist.cons _ (List.Sublist.cons_cons _ (List.Sublist.cons _ (List.Sublist.refl _)))) (fun p hp => hp)), ?_⟩
    refine aJ ?_
    refine lL 9 ?_
    refine cY 2 0 rfl rfl rfl rfl (by decide) rfl (by simp [Value.oneCell']) (by omega) (by omega) (fun pv' => ?_)
    refine ⟨.inl (fun w hs => hs.weaken (List.Sublist.cons _ (List.Sublist.cons_cons _ (List.Sublist.cons _ (List.Sublist.refl _)))) (fun p hp => hp)), ?_⟩
    refine aJ ?_
    refine jC ?_
    refine j5 2 rfl (fun A6 c6 hv => ?_)
    subst hv
    refine r8 (Cx (cs ++ [.int .i64 l[i].at_, .slice A5 l[i].data.length c5]) (cur.pending ++ [⟨l[i].at_, l[i].data⟩])) (fun s hs => eN (hs (Cx cs cur.pending) aV) ⟨A5, c5, rfl, hI2, hs (Sl (.slice A5 l[i].data.length c5) l[i].data) aV⟩) ?_
    refine dJ _ (List.Sublist.refl _) (fun p hp => List.mem_cons_of_mem _ hp) ?_
    all_goals ((refine bR 10 (List.Sublist.cons _ (List.Sublist.cons_cons _ (List.Sublist.cons _ (List.Sublist.refl _)))) ?_; ((refine aC rfl ?_)); refine aJ ?_))
    -- left: [11]; ready: [11]: ['store']
    refine lL 11 ?_
    refine aO (i := 3) rfl cW rfl (by rfl) (by simp) (by simp [Value.oneCell']) ?_
    refine ⟨.inr (by decide +kernel), ?_⟩
    refine aJ ?_
    refine jC ?_
    refine jO (by decide +kernel) ?_
    repeat' (first | (apply aA) | (apply aG) | (apply aD) | (apply bP) | (apply aU; exact rfl; ((refine bI rfl rfl (by omega) (by omega) ?_)); refine aB ?_) | (refine aE rfl rfl ?_; ((refine aH ?_)); refine aB ?_))
    refine cE (m2 - 1) (.row (.slice A6 (cur.pending.length + 1) c6) 139 2 (cur.pending.length + 1) (cs ++ [.int .i64 l[i].at_, .slice A5 l[i].data.length c5]) :: .blk b7 [.slice A' cur.bytes.length c', .slice A6 (cur.pending.length + 1) c6] 51 :: .blk b4 [.slice none 0 0, .slice none 0 0] 51 :: .blk b2 [.slice A0 d.bytes.length c0, .slice A2 d.pending.length c2] 51 :: H) (Cx (cs ++ [.int .i64 l[i].at_, .slice A5 l[i].data.length c5]) (cur.pending ++ [⟨l[i].at_, l[i].data⟩]) :: Sl (.slice A' cur.bytes.length c') cur.bytes :: R) (by omega) eE ⟨i + 1, by omega, rfl, ⟨cur.bytes, cur.pending ++ [⟨l[i].at_, l[i].data⟩]⟩, A6, c6, _, A', c', ?_, ?_, ?_, rfl, ?_⟩ (fun w hs => hs.weaken (by simp) (fun p hp => ?_))
    · rw [HD.out, HS.out (by omega), doL, if_neg hk2, if_neg (by omega)]
    · exact hcl
    · exact tQ hcc (by omega) (by rw [hcl]; exact hok hk2)
    · simp only [List.length_append, List.length_cons, List.length_nil, Nat.zero_add]
    · simp only [List.mem_cons] at hp ⊢
      rcases hp with hp | hp | hp
      · exact .inl hp
      · simp [hp]
      · simp [hp]
  · have hil : i = l.length := by omega
    refine bC (.inl rfl) (jM rfl (dG (i := 2) rfl rfl rfl) (bS rfl)) (cG H (iC A' c' Ap cp cur R) (fun w hs => ?_) (qD (r' := (cur, 0)) ?_ k A' c' Ap cp))
    · obtain ⟨A7, c7, e, h2⟩ := hs.stays (i := 0) rfl rfl (by decide) aV
      cases e
      exact h2.weaken bU (fun p hp => by
        simp only [List.mem_cons] at hp ⊢
        rcases hp with hp | hp | hp
        · simp [hp]
        · simp [hp]
        · simp [hp])
    · unfold doD
      rw [hc, hB]
      simp only [if_true]
      rw [HD.out, hil, List.drop_length]; rfl
end Go.Proofs.YtggdljhmbckpmaaGreat
namespace Go.Proofs.YtggdljhmbckpmaaGreat
open Go Go.RowKit
set_option maxRecDepth 100000
set_option maxHeartbeats 800000

def rU (picks : List Int) (i : Nat) : Nat := match picks[i]? with | some p => amt p | none => 0
def fH (b : List UInt8) (w : DW) (k : Nat) : List UInt8 :=
  if k ≤ w.data.length then uJ b w.at_.toNat (w.data.take k) else if 0 < w.data.length then uJ b (w.at_.toNat + 1) (w.data.drop 1) else b
def kC (picks : List Int) : List DW → Nat → List UInt8 → List UInt8
  | [], _, b => b
  | w :: ws, i, b => kC picks ws (i + 1) (fH b w (rU picks i % (w.data.length + 2)))
def oD (d : Drive) (picks : List Int) : Drive × Int := if eM d then (⟨kC picks d.pending 0 d.bytes, []⟩, 0) else (⟨[], []⟩, 301)
theorem hJ (b : List UInt8) (w : DW) (k : Nat) (h : w.at_.toNat + w.data.length ≤ b.length) : (fH b w k).length = b.length := by
  unfold fH
  split
  · exact lH _ _ _ (by simp; omega)
  · split
    · exact lH _ _ _ (by simp; omega)
    · rfl

theorem gG {w0 : World} {H : List Hp} {R : List MP} {K : Value → List Hp → List MP → Prop} (A0 : Option Addr) (c0 : Nat) (A2 : Option Addr) (c2 : Nat) (A3 : Option Addr) (c3 : Nat) (d : Drive) (l : List Int) (hb : d.bytes.length ≤ 9223372036854775807) (hp : d.pending.length ≤ 9223372036854775807) (hll : l.length ≤ 9223372036854775807)
    (hm : Sl (.slice A0 d.bytes.length c0) d.bytes ∈ R) (hm2 : Sl (.slice A2 d.pending.length c2) d.pending ∈ R) (hm3 : Sl (.slice A3 l.length c3) l ∈ R)
    (k : KD K (oD d l) H R) : CallsK Tryz.prog w0 27 #[dv A0 c0 A2 c2 d, .slice A3 l.length c3] H R K := by
  refine bX Tryz.func27 rfl Tryz.ntmps27 eZ ?_
  repeat' (first | (refine dS rfl ?_; refine aY fA ?_; refine pI _ _ _ _ d hb hp hm hm2 ?_; refine aB ?_) | (apply aF) | (apply aA) | (apply bN) | (apply bE) | (apply aK; exact rfl) | (apply aI; exact rfl) | (apply aG) | (apply aD) | (apply bO) | (apply aP; exact rfl; ((refine aM (i := 1) rfl rfl rfl ?_)); refine aB ?_) | (apply aU; exact rfl; ((refine eL rfl rfl (fun h => ?_) (fun h => ?_))) <;> (refine aB ?_)) | (apply bD; exact rfl; ((refine aO (i := 0) rfl cW rfl (by rfl) (by simp) (by simp [Value.oneCell']) ?_)); refine aB ?_; refine cA ?_) | (refine aE rfl rfl ?_; ((first | refine aH ?_ | refine aX ?_ | refine aC rfl ?_ | refine dN gI ?_)); refine aB ?_) | (refine bG rfl rfl ?_; ((first | refine eB cW (fun b => ?_) | refine bK cW (fun b => ?_))); refine aB ?_))
  · refine bC (.inl rfl) (jM rfl (dG (i := 0) rfl rfl rfl) (bS rfl)) (cG H _ (fun w hs => pB (hs.weaken (by simp) (fun _ h => h))) ?_)
    have hc : eM d = false := by unfold jL at h; cases hc : eM d <;> simp_all
    have e : jL d = 301 := by unfold jL; rw [hc]; rfl
    rw [e]
    exact qD (r' := (⟨[], []⟩, 301)) (by unfold oD; rw [hc]; rfl) k none 0 none 0
  have hc : eM d = true := by unfold jL at h; cases hc : eM d <;> simp_all
  obtain ⟨h64, hmax, hmod, h100, hw⟩ := gQ hc
  have HW := Go.Lib.hid hw
  clear hw
  repeat' (first | (refine dS rfl ?_; refine aY fA ?_; refine nA _ _ _ (by omega) aV (fun v => ?_); refine aB ?_) | (apply aF) | (apply aA) | (apply aT) | (apply aG) | (apply aD) | (apply aP; exact rfl; ((refine aM (i := 2) rfl rfl rfl ?_)); refine aB ?_) | (refine aE rfl rfl ?_; ((first | refine aH ?_ | refine aX ?_ | refine aC rfl ?_ | refine bQ rfl ?_)); refine aB ?_))
  rename_i b2
  revert b
  intro b4
  refine tY 0 rfl (by omega) (fun b7 cap sp hv hl1 hl2 hcap hcapm => ?_)
  subst hv
  refine iI rZ ?_
  refine cK [8, 9, 10, 11, 24, 25, 26, 27, 28, 29, 30, 31, 32, 33, 34, 35, 36, 37, 38, 39, 40, 41, 42, 43, 44, 45, 46, 47, 48, 49, 50, 51, 52, 53, 54, 55, 56, 57, 58, 59, 60, 61, 62, 63, 64, 65, 66, 67, 68, 69, 70, 71, 72, 73, 74, 75] (fun m j H' R' => R = R' ∧ ∃ i : Nat, i + m = d.pending.length ∧ j 24 = .int .i64 i ∧ ∃ cur : List UInt8, cur.length = d.bytes.length ∧ kC l d.pending 0 d.bytes = kC l (d.pending.drop i) i cur ∧
    (.blk b7 (bA cur ++ sp) 5 :: .blk b4 [.slice none 0 0, .slice none 0 0] 51 :: .blk b2 [.slice A0 d.bytes.length c0, .slice A2 d.pending.length c2] 51 :: H) = H') d.pending.length eE ⟨rfl, 0, by omega, rfl, d.bytes, rfl, rfl, rfl⟩ ?_
  rintro m j H' R' ⟨hR, i, hi, h24, cur, hcl, hcur, hH⟩
  subst hH; subst hR
  have HC := Go.Lib.hid hcur
  clear hcur
  refine cQ (by simp only [dX, List.foldl_cons, List.foldl_nil, List.set_cons_succ, List.set_cons_zero, h24]; rfl) ?_
  repeat' (first | (apply aF) | (apply aA) | (apply aT) | (apply bN) | (apply bE) | (apply bV) | (apply aK; exact rfl) | (apply aI; exact rfl) | (apply aG) | (apply aD) | (apply aS) | (apply aR) | (apply aP; exact rfl; ((first | refine aM (i := 0) rfl rfl rfl ?_ | refine aZ rfl cJ rfl ?_)); refine aB ?_) | (apply aU; exact rfl; ((refine bM rfl rfl (fun h => ?_) (fun h => ?_))) <;> (refine aB ?_)) | (apply gL; exact rfl; ((refine kH eJ rfl aV (List.getElem?_eq_getElem (by omega)) (fun b o A c hI hL => ?_))); refine aB ?_) | (apply bD; exact rfl; ((first | refine aO (i := 0) rfl cW rfl (by rfl) (by simp) (by simp [Value.oneCell']) ?_ | refine aO (i := 1) rfl cW rfl (by rfl) (by simp) (by simp [Value.oneCell']) ?_)); refine aB ?_; refine cA ?_) | (refine aE rfl rfl ?_; ((first | refine aH ?_ | refine aX ?_ | refine aC rfl ?_ | refine bQ rfl ?_ | refine dN gI ?_)); refine aB ?_) | (refine bG rfl rfl ?_; ((refine bK cW (fun b => ?_))); refine aB ?_))
  · skip
    refine dQ eT (by decide +kernel) (fun _ _ _ _ _ _ h => h) (List.Sublist.refl _) ?_
    all_goals ((refine bF 0 ?_; ((refine aH ?_)); refine aJ ?_))
    all_goals ((refine bF 1 ?_; ((refine aH ?_)); refine aJ ?_))
    all_goals ((refine bF 2 ?_; ((refine hX eJ rfl aV (List.getElem?_eq_getElem (by omega)) (fun b o hI => ?_))); refine aJ ?_))
    all_goals ((refine bF 3 ?_; ((refine aZ rfl cJ rfl ?_)); refine aJ ?_))
    all_goals ((refine bF 4 ?_; ((refine aH ?_)); refine aJ ?_))
    all_goals ((refine bF 5 ?_; ((refine aH ?_)); refine aJ ?_))
    all_goals ((refine bF 6 ?_; ((refine hX eJ rfl aV (List.getElem?_eq_getElem (by omega)) (fun b o hI => ?_))); refine aJ ?_))
    all_goals ((refine bF 7 ?_; ((refine aZ rfl cJ rfl ?_)); refine aJ ?_))
    all_goals ((refine bF 8 ?_; ((refine pw_neg rfl ?_)); refine aJ ?_))
    all_goals ((refine bF 9 ?_; ((refine pw_amt hI rfl rfl rfl ?_)); refine aJ ?_))
    all_goals ((refine bF 10 ?_; ((refine aX ?_)); refine aJ ?_))
    all_goals refine gX ?_
    repeat' (first | (apply aF) | (apply aA) | (apply aG) | (apply aD) | (apply aP; exact rfl; ((refine aM (i := 0) rfl rfl rfl ?_)); refine aB ?_) | (refine aE rfl rfl ?_; ((first | refine aH ?_ | refine aX ?_ | refine aC rfl ?_ | refine bQ rfl ?_)); refine aB ?_))
    have hwi : 0 ≤ d.pending[i].at_ ∧ d.pending[i].at_.toNat + d.pending[i].data.length ≤ d.bytes.length := HW.out i (by omega)
    repeat' (first | (refine aE rfl rfl ?_; refine xJ (a := amt l[i]) (m := d.pending[i].data.length + 2) rfl (by (first | rfl | simp [ev])) (by omega) (fun r hr hrlt => ?_); refine aB ?_) | (apply aF) | (apply aA) | (apply aT) | (apply bE) | (apply aK; exact rfl) | (apply aI; exact rfl) | (apply aG) | (apply aD) | (apply bP) | (apply aU; exact rfl; ((refine bI rfl rfl (by omega) (by omega) ?_)); refine aB ?_) | (apply aU; exact rfl; ((first | refine mM rfl rfl (fun h => ?_) (fun h => ?_) | refine fF rfl rfl (fun h => ?_) (fun h => ?_))) <;> (refine aB ?_)) | (refine aE rfl rfl ?_; ((first | refine aH ?_ | refine aX ?_)); refine aB ?_))
    all_goals
      have hnext : kC l (d.pending.drop i) i cur = kC l (d.pending.drop (i + 1)) (i + 1) (fH cur d.pending[i] r) := by
        rw [List.drop_eq_getElem_cons (show i < d.pending.length by omega), kC, (show rU l i = amt l[i] by simp [rU, List.getElem?_eq_getElem (show i < l.length by omega)]), ← show r = _ from hr]
      have HN := Go.Lib.hid hnext
      clear hnext
    · skip
      refine dQ eT (by decide +kernel) (fun _ _ _ _ _ _ h => h) (List.Sublist.cons_cons _ (List.Sublist.cons _ (List.Sublist.refl _))) ?_
      all_goals ((refine bR 0 (List.Sublist.cons_cons _ (List.Sublist.cons _ (List.Sublist.refl _))) ?_; ((refine aH ?_)); refine aJ ?_))
      all_goals ((refine bR 1 (List.Sublist.cons_cons _ (List.Sublist.cons _ (List.Sublist.refl _))) ?_; ((refine aC rfl ?_)); refine aJ ?_))
      all_goals ((refine bR 2 (List.Sublist.cons_cons _ (List.Sublist.cons _ (List.Sublist.refl _))) ?_; ((refine aM (i := 0) rfl rfl rfl ?_)); refine aJ ?_))
      all_goals ((refine bR 3 (List.Sublist.cons_cons _ (List.Sublist.cons _ (List.Sublist.refl _))) ?_; ((refine iP rfl rfl rfl (by omega) (by omega) (by omega) (fun o' ho' => ?_))); refine aJ ?_))
      all_goals ((refine bR 4 (List.Sublist.cons_cons _ (List.Sublist.cons _ (List.Sublist.refl _))) ?_; ((refine aC rfl ?_)); refine aJ ?_))
      all_goals ((refine bR 5 (List.Sublist.cons_cons _ (List.Sublist.cons _ (List.Sublist.refl _))) ?_; ((refine aM (i := 0) rfl rfl rfl ?_)); refine aJ ?_))
      all_goals ((refine bR 6 (List.Sublist.cons_cons _ (List.Sublist.cons _ (List.Sublist.refl _))) ?_; ((refine aH ?_)); refine aJ ?_))
      all_goals ((refine bR 7 (List.Sublist.cons_cons _ (List.Sublist.cons _ (List.Sublist.refl _))) ?_; ((refine fP rfl aV rfl rfl rfl rfl (by omega) (by omega) (by omega) (fun A8 c8 => ?_))); refine aJ ?_))
      -- left: [8]; ready: [8]: ['call copy']
      refine lL 8 ?_
      refine pJ (i := 1) rfl rfl aV rfl (fun h => by simp; omega) ?_
      refine ⟨.inl (fun w hs => hs.weaken (List.Sublist.cons_cons _ (List.Sublist.cons _ (List.Sublist.refl _))) (fun p hp => hp)), ?_⟩
      refine jO (by decide +kernel) ?_
      repeat' (first | (apply aA) | (apply aG) | (apply aD) | (apply bP) | (apply aU; exact rfl; ((refine bI rfl rfl (by omega) (by omega) ?_)); refine aB ?_) | (refine aE rfl rfl ?_; ((refine aH ?_)); refine aB ?_))
      refine cE (m - 1) (.blk b7 (bA (fH cur d.pending[i] r) ++ sp) 5 :: .blk b4 [.slice none 0 0, .slice none 0 0] 51 :: .blk b2 [.slice A0 d.bytes.length c0, .slice A2 d.pending.length c2] 51 :: H) R (by omega) eE ⟨rfl, i + 1, by omega, rfl, fH cur d.pending[i] r, by rw [hJ _ _ _ (by omega)]; exact hcl, HC.out.trans HN.out, rfl⟩ (fun w hs => ?_)
      have e := kW cur ((d.pending[i].data.take (r : Int).toNat).drop (0 : Int).toNat) sp d.pending[i].at_.toNat ((d.bytes.length : Int).toNat - d.pending[i].at_.toNat) o' (by simp [hcl]) ho' (by simp; omega)
      have e2 : fH cur d.pending[i] r = uJ cur d.pending[i].at_.toNat ((d.pending[i].data.take (r : Int).toNat).drop (0 : Int).toNat) := by
        unfold fH
        rw [if_pos (by omega)]; simp
      rw [e2, ← e]
      exact hs.weaken bU cZ
    · skip
      refine dQ eT (by decide +kernel) (fun _ _ _ _ _ _ h => h) (List.Sublist.cons_cons _ (List.Sublist.cons _ (List.Sublist.refl _))) ?_
      all_goals ((refine bR 0 (List.Sublist.cons_cons _ (List.Sublist.cons _ (List.Sublist.refl _))) ?_; ((refine aH ?_)); refine aJ ?_))
      all_goals ((refine bR 1 (List.Sublist.cons_cons _ (List.Sublist.cons _ (List.Sublist.refl _))) ?_; ((refine aC rfl ?_)); refine aJ ?_))
      all_goals ((refine bR 2 (List.Sublist.cons_cons _ (List.Sublist.cons _ (List.Sublist.refl _))) ?_; ((refine aM (i := 0) rfl rfl rfl ?_)); refine aJ ?_))
      all_goals ((refine bR 3 (List.Sublist.cons_cons _ (List.Sublist.cons _ (List.Sublist.refl _))) ?_; ((refine bI rfl rfl (by omega) (by omega) ?_)); refine aJ ?_))
      all_goals ((refine bR 4 (List.Sublist.cons_cons _ (List.Sublist.cons _ (List.Sublist.refl _))) ?_; ((refine iP rfl rfl rfl (by omega) (by omega) (by omega) (fun o' ho' => ?_))); refine aJ ?_))
      all_goals ((refine bR 5 (List.Sublist.cons_cons _ (List.Sublist.cons _ (List.Sublist.refl _))) ?_; ((refine aC rfl ?_)); refine aJ ?_))
      all_goals ((refine bR 6 (List.Sublist.cons_cons _ (List.Sublist.cons _ (List.Sublist.refl _))) ?_; ((refine aM (i := 0) rfl rfl rfl ?_)); refine aJ ?_))
      all_goals ((refine bR 7 (List.Sublist.cons_cons _ (List.Sublist.cons _ (List.Sublist.refl _))) ?_; ((refine fP rfl aV rfl rfl rfl rfl (by omega) (by omega) (by omega) (fun A8 c8 => ?_))); refine aJ ?_))
      -- left: [8]; ready: [8]: ['call copy']
      refine lL 8 ?_
      refine pJ (i := 1) rfl rfl aV rfl (fun h => by simp; omega) ?_
      refine ⟨.inl (fun w hs => hs.weaken (List.Sublist.cons_cons _ (List.Sublist.cons _ (List.Sublist.refl _))) (fun p hp => hp)), ?_⟩
      refine jO (by decide +kernel) ?_
      repeat' (first | (apply aA) | (apply aG) | (apply aD) | (apply bP) | (apply aU; exact rfl; ((refine bI rfl rfl (by omega) (by omega) ?_)); refine aB ?_) | (refine aE rfl rfl ?_; ((refine aH ?_)); refine aB ?_))
      refine cE (m - 1) (.blk b7 (bA (fH cur d.pending[i] r) ++ sp) 5 :: .blk b4 [.slice none 0 0, .slice none 0 0] 51 :: .blk b2 [.slice A0 d.bytes.length c0, .slice A2 d.pending.length c2] 51 :: H) R (by omega) eE ⟨rfl, i + 1, by omega, rfl, fH cur d.pending[i] r, by rw [hJ _ _ _ (by omega)]; exact hcl, HC.out.trans HN.out, rfl⟩ (fun w hs => ?_)
      have e := kW cur ((d.pending[i].data.take (d.pending[i].data.length : Int).toNat).drop (1 : Int).toNat) sp (d.pending[i].at_ + 1).toNat ((d.bytes.length : Int).toNat - (d.pending[i].at_ + 1).toNat) o' (by simp [hcl]) ho' (by simp; omega)
      have e2 : fH cur d.pending[i] r = uJ cur (d.pending[i].at_ + 1).toNat ((d.pending[i].data.take (d.pending[i].data.length : Int).toNat).drop (1 : Int).toNat) := by
        unfold fH
        rw [if_neg (by omega), if_pos (by omega), show (d.pending[i].at_ + 1).toNat = d.pending[i].at_.toNat + 1 by omega]; simp
      rw [e2, ← e]
      exact hs.weaken bU cZ
    · refine cE (m - 1) (.blk b7 (bA (fH cur d.pending[i] r) ++ sp) 5 :: .blk b4 [.slice none 0 0, .slice none 0 0] 51 :: .blk b2 [.slice A0 d.bytes.length c0, .slice A2 d.pending.length c2] 51 :: H) R (by omega) eE ⟨rfl, i + 1, by omega, rfl, fH cur d.pending[i] r, by rw [hJ _ _ _ (by omega)]; exact hcl, HC.out.trans HN.out, rfl⟩ (fun w hs => ?_)
      have e2 : fH cur d.pending[i] r = cur := by
        unfold fH
        rw [if_neg (by omega), if_neg (by omega)]
      rw [e2]
      exact hs.weaken bU cZ
  · skip
    have hwi : 0 ≤ d.pending[i].at_ ∧ d.pending[i].at_.toNat + d.pending[i].data.length ≤ d.bytes.length := HW.out i (by omega)
    repeat' (first | (refine aE rfl rfl ?_; refine xJ (a := 0) (m := d.pending[i].data.length + 2) rfl (by (first | rfl | simp [ev])) (by omega) (fun r hr hrlt => ?_); refine aB ?_) | (apply aF) | (apply aA) | (apply aT) | (apply bE) | (apply aK; exact rfl) | (apply aI; exact rfl) | (apply aG) | (apply aD) | (apply bP) | (apply aU; exact rfl; ((refine bI rfl rfl (by omega) (by omega) ?_)); refine aB ?_) | (apply aU; exact rfl; ((first | refine mM rfl rfl (fun h => ?_) (fun h => ?_) | refine fF rfl rfl (fun h => ?_) (fun h => ?_))) <;> (refine aB ?_)) | (refine aE rfl rfl ?_; ((first | refine aH ?_ | refine aX ?_)); refine aB ?_))
    all_goals
      have hnext : kC l (d.pending.drop i) i cur = kC l (d.pending.drop (i + 1)) (i + 1) (fH cur d.pending[i] r) := by
        rw [List.drop_eq_getElem_cons (show i < d.pending.length by omega), kC, (show rU l i = 0 by simp [rU, List.getElem?_eq_none (show l.length ≤ i by omega)]), ← show r = _ from hr]
      have HN := Go.Lib.hid hnext
      clear hnext
    · skip
      refine dQ eT (by decide +kernel) (fun _ _ _ _ _ _ h => h) (List.Sublist.cons_cons _ (List.Sublist.cons _ (List.Sublist.refl _))) ?_
      all_goals ((refine bR 0 (List.Sublist.cons_cons _ (List.Sublist.cons _ (List.Sublist.refl _))) ?_; ((refine aH ?_)); refine aJ ?_))
      all_goals ((refine bR 1 (List.Sublist.cons_cons _ (List.Sublist.cons _ (List.Sublist.refl _))) ?_; ((refine aC rfl ?_)); refine aJ ?_))
      all_goals ((refine bR 2 (List.Sublist.cons_cons _ (List.Sublist.cons _ (List.Sublist.refl _))) ?_; ((refine aM (i := 0) rfl rfl rfl ?_)); refine aJ ?_))
      all_goals ((refine bR 3 (List.Sublist.cons_cons _ (List.Sublist.cons _ (List.Sublist.refl _))) ?_; ((refine iP rfl rfl rfl (by omega) (by omega) (by omega) (fun o' ho' => ?_))); refine aJ ?_))
      all_goals ((refine bR 4 (List.Sublist.cons_cons _ (List.Sublist.cons _ (List.Sublist.refl _))) ?_; ((refine aC rfl ?_)); refine aJ ?_))
      all_goals ((refine bR 5 (List.Sublist.cons_cons _ (List.Sublist.cons _ (List.Sublist.refl _))) ?_; ((refine aM (i := 0) rfl rfl rfl ?_)); refine aJ ?_))
      all_goals ((refine bR 6 (List.Sublist.cons_cons _ (List.Sublist.cons _ (List.Sublist.refl _))) ?_; ((refine aH ?_)); refine aJ ?_))
      all_goals ((refine bR 7 (List.Sublist.cons_cons _ (List.Sublist.cons _ (List.Sublist.refl _))) ?_; ((refine fP rfl aV rfl rfl rfl rfl (by omega) (by omega) (by omega) (fun A8 c8 => ?_))); refine aJ ?_))
      -- left: [8]; ready: [8]: ['call copy']
      refine lL 8 ?_
      refine pJ (i := 1) rfl rfl aV rfl (fun h => by simp; omega) ?_
      refine ⟨.inl (fun w hs => hs.weaken (List.Sublist.cons_cons _ (List.Sublist.cons _ (List.Sublist.refl _))) (fun p hp => hp)), ?_⟩
      refine jO (by decide +kernel) ?_
      repeat' (first | (apply aA) | (apply aG) | (apply aD) | (apply bP) | (apply aU; exact rfl; ((refine bI rfl rfl (by omega) (by omega) ?_)); refine aB ?_) | (refine aE rfl rfl ?_; ((refine aH ?_)); refine aB ?_))
      refine cE (m - 1) (.blk b7 (bA (fH cur d.pending[i] r) ++ sp) 5 :: .blk b4 [.slice none 0 0, .slice none 0 0] 51 :: .blk b2 [.slice A0 d.bytes.length c0, .slice A2 d.pending.length c2] 51 :: H) R (by omega) eE ⟨rfl, i + 1, by omega, rfl, fH cur d.pending[i] r, by rw [hJ _ _ _ (by omega)]; exact hcl, HC.out.trans HN.out, rfl⟩ (fun w hs => ?_)
      have e := kW cur ((d.pending[i].data.take (r : Int).toNat).drop (0 : Int).toNat) sp d.pending[i].at_.toNat ((d.bytes.length : Int).toNat - d.pending[i].at_.toNat) o' (by simp [hcl]) ho' (by simp; omega)
      have e2 : fH cur d.pending[i] r = uJ cur d.pending[i].at_.toNat ((d.pending[i].data.take (r : Int).toNat).drop (0 : Int).toNat) := by
        unfold fH
        rw [if_pos (by omega)]; simp
      rw [e2, ← e]
      exact hs.weaken bU cZ
    · skip
      refine dQ eT (by decide +kernel) (fun _ _ _ _ _ _ h => h) (List.Sublist.cons_cons _ (List.Sublist.cons _ (List.Sublist.refl _))) ?_
      all_goals ((refine bR 0 (List.Sublist.cons_cons _ (List.Sublist.cons _ (List.Sublist.refl _))) ?_; ((refine aH ?_)); refine aJ ?_))
      all_goals ((refine bR 1 (List.Sublist.cons_cons _ (List.Sublist.cons _ (List.Sublist.refl _))) ?_; ((refine aC rfl ?_)); refine aJ ?_))
      all_goals ((refine bR 2 (List.Sublist.cons_cons _ (List.Sublist.cons _ (List.Sublist.refl _))) ?_; ((refine aM (i := 0) rfl rfl rfl ?_)); refine aJ ?_))
      all_goals ((refine bR 3 (List.Sublist.cons_cons _ (List.Sublist.cons _ (List.Sublist.refl _))) ?_; ((refine bI rfl rfl (by omega) (by omega) ?_)); refine aJ ?_))
      all_goals ((refine bR 4 (List.Sublist.cons_cons _ (List.Sublist.cons _ (List.Sublist.refl _))) ?_; ((refine iP rfl rfl rfl (by omega) (by omega) (by omega) (fun o' ho' => ?_))); refine aJ ?_))
      all_goals ((refine bR 5 (List.Sublist.cons_cons _ (List.Sublist.cons _ (List.Sublist.refl _))) ?_; ((refine aC rfl ?_)); refine aJ ?_))
      all_goals ((refine bR 6 (List.Sublist.cons_cons _ (List.Sublist.cons _ (List.Sublist.refl _))) ?_; ((refine aM (i := 0) rfl rfl rfl ?_)); refine aJ ?_))
      all_goals ((refine bR 7 (List.Sublist.cons_cons _ (List.Sublist.cons _ (List.Sublist.refl _))) ?_; ((refine fP rfl aV rfl rfl rfl rfl (by omega) (by omega) (by omega) (fun A8 c8 => ?_))); refine aJ ?_))
      -- left: [8]; ready: [8]: ['call copy']
      refine lL 8 ?_
      refine pJ (i := 1) rfl rfl aV rfl (fun h => by simp; omega) ?_
      refine ⟨.inl (fun w hs => hs.weaken (List.Sublist.cons_cons _ (List.Sublist.cons _ (List.Sublist.refl _))) (fun p hp => hp)), ?_⟩
      refine jO (by decide +kernel) ?_
      repeat' (first | (apply aA) | (apply aG) | (apply aD) | (apply bP) | (apply aU; exact rfl; ((refine bI rfl rfl (by omega) (by omega) ?_)); refine aB ?_) | (refine aE rfl rfl ?_; ((refine aH ?_)); refine aB ?_))
      refine cE (m - 1) (.blk b7 (bA (fH cur d.pending[i] r) ++ sp) 5 :: .blk b4 [.slice none 0 0, .slice none 0 0] 51 :: .blk b2 [.slice A0 d.bytes.length c0, .slice A2 d.pending.length c2] 51 :: H) R (by omega) eE ⟨rfl, i + 1, by omega, rfl, fH cur d.pending[i] r, by rw [hJ _ _ _ (by omega)]; exact hcl, HC.out.trans HN.out, rfl⟩ (fun w hs => ?_)
      have e := kW cur ((d.pending[i].data.take (d.pending[i].data.length : Int).toNat).drop (1 : Int).toNat) sp (d.pending[i].at_ + 1).toNat ((d.bytes.length : Int).toNat - (d.pending[i].at_ + 1).toNat) o' (by simp [hcl]) ho' (by simp; omega)
      have e2 : fH cur d.pending[i] r = uJ cur (d.pending[i].at_ + 1).toNat ((d.pending[i].data.take (d.pending[i].data.length : Int).toNat).drop (1 : Int).toNat) := by
        unfold fH
        rw [if_neg (by omega), if_pos (by omega), show (d.pending[i].at_ + 1).toNat = d.pending[i].at_.toNat + 1 by omega]; simp
      rw [e2, ← e]
      exact hs.weaken bU cZ
    · refine cE (m - 1) (.blk b7 (bA (fH cur d.pending[i] r) ++ sp) 5 :: .blk b4 [.slice none 0 0, .slice none 0 0] 51 :: .blk b2 [.slice A0 d.bytes.length c0, .slice A2 d.pending.length c2] 51 :: H) R (by omega) eE ⟨rfl, i + 1, by omega, rfl, fH cur d.pending[i] r, by rw [hJ _ _ _ (by omega)]; exact hcl, HC.out.trans HN.out, rfl⟩ (fun w hs => ?_)
      have e2 : fH cur d.pending[i] r = cur := by
        unfold fH
        rw [if_neg (by omega), if_neg (by omega)]
      rw [e2]
      exact hs.weaken bU cZ
  · have hie : i = d.pending.length := by omega
    have hcr : kC l d.pending 0 d.bytes = cur := by
      rw [HC.out, hie, List.drop_length]; rfl
    have k' := qD (r' := (⟨cur, []⟩, 0)) (by unfold oD; rw [hc, hcr]; rfl) k (some ⟨b7, 0, none⟩) cap none 0
    simp only [dv, iC, hcl, List.length_nil] at k'
    refine bC (.inl rfl) (jM rfl (dG (i := 1) rfl rfl rfl) (bS rfl)) (cG H _ (fun w hs => ?_) k')
    have h2 := (hs.learn (Cx (bA cur) cur) (fun s _ => tT _ s)).blk_stays (i := 0) (n := d.bytes.length) (c := cap) rfl aV hcl.symm hcap (by simp only [dY]; simp only [maxLen] at hcapm; omega)
    exact ((h2.sl_nil DW).weaken bU (fun p hp => by
      simp only [List.mem_cons] at hp ⊢
      rcases hp with hp | hp | hp
      · simp [hp]
      · simp [hp]
      · simp [hp]))
end Go.Proofs.YtggdljhmbckpmaaGreat
namespace Go.Proofs.YtggdljhmbckpmaaGreat
open Go Go.RowKit
set_option maxRecDepth 100000
set_option maxHeartbeats 800000

theorem yD {w0 : World} {H : List Hp} {R : List MP} {K : Value → List Hp → List MP → Prop} (i b cap m l : Nat) (xs : List UInt8) (hi : H[i]? = some (.row (.slice (some ⟨b, 0, none⟩) m cap) 5 1 m (bA xs))) (hml : m = xs.length) (hmc : m ≤ cap) (hl : l < m) (hb : xs.length ≤ 9223372036854775807)
    (k : K (.int .u32 (lJ (xs.drop l) : Nat)) H R) : CallsK Tryz.prog w0 115 #[.slice (some ⟨b, l, none⟩) (m - l) (cap - l)] H R K := by
  refine tO (.int .u32 (lJ (xs.drop l) : Nat)) [Sl (.slice (some ⟨b, l, none⟩) (m - l) (cap - l)) (xs.drop l)] (fun w1 => ?_) (fun w hs p hp => ?_) k
  · exact vZ _ _ _ (xs.drop l) (by simp [hml]) (by simp; omega) (by simp) rfl
  · simp at hp; subst hp
    have h1 := hs.full_row hi
    have h2 := m9 (A := some ⟨b, 0, none⟩) (n := m) (c := cap) (R := [Sl (.slice (some ⟨b, 0, none⟩) m cap) xs]) (xs := xs) (by simp) l xs.length (by omega) (by omega) (s := sA w) (fun q hq => by simp at hq; subst hq; exact h1)
    rw [if_neg (by omega)] at h2
    simp only [Option.map_some, Addr.add_mk, List.take_length] at h2
    subst hml
    simpa [Rep.size] using h2

section
variable {P : Program} {w0 : World} {E : List Value} {H : List Hp} {R : List MP} {ty : TypeId} {K : Value → List MP → Prop}
theorem yT {s d : TypeId} {x : Operand} {k : IntKind} {ds : TypeDesc} {a : Nat} [hs : TyU P s ds] [hd : TyU P d (.int .u32)] (hx : ev E x = .int k (a : Int)) (ha : a < 4294967296) (kk : K (.int .u32 (a : Int)) R) : PW P w0 E (.convert s d x) ty H R K :=
  kT (hs := hs) (hd := hd) hx rfl (by rw [Nat.mod_eq_of_lt (by simpa [IntKind.bits] using ha)]; exact kk)
end
def mH (epoch seq n : Nat) : List UInt8 := [167] ++ qO epoch ++ qO seq ++ qO n
def lM (epoch seq : Nat) (data : List UInt8) : List UInt8 :=
  mH epoch seq data.length ++ qO (lJ ((mH epoch seq data.length).drop 1)) ++ data ++ qO (lJ data)
theorem pD (e s n : Nat) : (mH e s n).length = 13 := by simp [mH, qO]
theorem nP (e s : Nat) (data : List UInt8) : (lM e s data).length = 21 + data.length := by simp [lM, mH, qO]; omega

theorem w9 {w0 : World} {H : List Hp} {R : List MP} {K : Value → List Hp → List MP → Prop} (A : Option Addr) (c : Nat) (data : List UInt8) (epoch seq : Nat) (he : epoch < 4294967296) (hs : seq < 4294967296) (hb : data.length ≤ 1000000)
    (hm : Sl (.slice A data.length c) data ∈ R)
    (k : ∀ v', K v' (.row v' 5 1 (lM epoch seq data).length (bA (lM epoch seq data)) :: H) R) : CallsK Tryz.prog w0 57 #[.int .i64 (epoch : Int), .int .i64 (seq : Int), .slice A data.length c] H R K := by
  refine bX Tryz.func57 rfl Tryz.ntmps57 eZ ?_
  repeat' (first | (apply aF) | (apply aA) | (apply aT) | (apply aG) | (apply aD) | (refine aE rfl rfl ?_; ((first | refine aH ?_ | refine aX ?_ | refine bQ rfl ?_)); refine aB ?_) | (refine bG rfl rfl ?_; ((refine bH (by decide) fD rfl (fun b => ?_))); refine aB ?_))
  rename_i b1
  refine dT (.row (.slice (some ⟨b1, 0, none⟩) 1 1) 5 1 1 [.int .u8 167] :: .blk b [.int .i64 (epoch : Int), .int .i64 (seq : Int), .int .i64 (data.length : Int)] 3 :: H) R (fun w hs => ((hs.torow (i := 1) (cs := [.int .u8 167]) (sp := []) (n := 1) (cap := 1) (size := 1) rfl rfl rfl (by omega) (by decide))).perm (List.Perm.swap _ _ _)) ?_
  refine mY 4 ?_
  iterate 3
    apply gK
    repeat' (first | (refine aE rfl rfl ?_; refine vV rfl rfl (by omega) (by omega) ?_; refine aB ?_) | (refine aE rfl rfl ?_; refine yT rfl (by omega) ?_; refine aB ?_) | (refine dS rfl ?_; refine aY fA ?_; refine lN _ _ _ _ (by omega) (by omega) (fun v => ?_); refine aB ?_) | (apply aF) | (apply aA) | (apply aT) | (apply bE) | (apply aK; exact rfl) | (apply aG) | (apply aD) | (apply bP) | (apply aP; exact rfl; ((refine aM (i := 1) rfl rfl rfl ?_)); refine aB ?_) | (apply aU; exact rfl; ((refine bI rfl rfl (by omega) (by omega) ?_)); refine aB ?_) | (apply aU; exact rfl; ((refine bM rfl rfl (fun h => ?_) (fun h => ?_))) <;> (first | (exfalso; omega) | refine aB ?_)) | (refine aE rfl rfl ?_; ((first | refine aH ?_ | refine aX ?_)); refine aB ?_))
    apply jE
  apply gK
  repeat' (first | (apply aF) | (apply aA) | (apply bV) | (apply aI; exact rfl) | (apply aG) | (apply aD) | (apply aS) | (apply aR) | (apply aU; exact rfl; ((refine bM rfl rfl (fun h => ?_) (fun h => ?_))) <;> (first | (exfalso; omega) | refine aB ?_)) | (refine aE rfl rfl ?_; ((refine aH ?_)); refine aB ?_))
  refine T_hp (H' := .row v 5 1 13 (bA (mH epoch seq data.length)) :: .blk b [.int .i64 (epoch : Int), .int .i64 (seq : Int), .int .i64 (data.length : Int)] 3 :: H) (by ((simp only [mH, fE]; rfl))) ?_
  refine g6 0 rfl (by omega) (fun b2 c2 hv h1 h2 => ?_)
  subst hv
  repeat' (first | (refine aE rfl rfl ?_; refine iP rfl rfl rfl (by omega) (by omega) (by omega) (fun o' ho' => ?_); obtain rfl : o' = 1 := (by omega); refine aB ?_) | (refine dS rfl ?_; refine aY fA ?_; refine yD 0 b2 c2 13 1 (mH epoch seq data.length) rfl (by rw [pD]) h1 (by omega) (by rw [pD]; omega) ?_; refine aB ?_))
  refine dS rfl ?_; refine aY fA ?_; refine lN _ 13 (lJ ((mH epoch seq data.length).drop 1)) _ (by omega) (xR _) (fun v2 => ?_)
  refine aB ?_
  repeat' (first | (refine bG rfl rfl ?_; refine oX 0 rfl rfl aV rfl rfl (by omega) (by omega) (fun v3 => ?_); refine aB ?_; refine cA ?_) | (refine dS rfl ?_; refine aY fA ?_; refine sum_k _ _ data (by omega) aV ?_; refine aB ?_) | (apply aF) | (apply aA) | (apply aG) | (apply aD) | (refine aE rfl rfl ?_; ((first | refine aH ?_ | refine aX ?_)); refine aB ?_))
  refine dS rfl ?_; refine aY fA ?_; refine lN _ (13 + 4 + data.length) (lJ data) _ (by omega) (xR _) (fun v4 => ?_)
  refine aB ?_
  repeat' (first | (apply bN) | (apply aG) | (apply aD) | (refine aE rfl rfl ?_; ((refine aX ?_)); refine aB ?_))
  refine bC (.inl rfl) (dM rfl (bS rfl)) (cG _ R (fun w hs => ?_) (k v4))
  have e : bA (mH epoch seq data.length) ++ bA (qO (lJ ((mH epoch seq data.length).drop 1))) ++ bA data ++ bA (qO (lJ data)) = bA (lM epoch seq data) := by simp only [lM, fE]
  have e2 : 13 + 4 + data.length + 4 = (lM epoch seq data).length := by rw [nP]; omega
  rw [e, e2] at hs
  exact hs.weaken bU (fun _ h => h)
end Go.Proofs.YtggdljhmbckpmaaGreat
