/- The reference of records: half, current: walks. The reference of records: current, Records, Last: walks. The reference of records: Records, Last: walks. The reference of records: Append: walk. -/
import Derived.Test.YtggdljhmbckpmaaGreatZGJ
import Derived.Test.YtggdljhmbckpmaaGreatW3J
import Derived.Test.YtggdljhmbckpmaaGreatW5J
set_option linter.unusedVariables false
set_option linter.unusedSimpArgs false
namespace Go.Proofs.YtggdljhmbckpmaaGreat
open Go Go.RowKit
set_option maxRecDepth 100000
set_option maxHeartbeats 1600000

def uJ (l : List Rc) : Int := epI (epL none l)
theorem rV : ∀ (l : List Rc) (a : Nat) (r : Rc), jK a (l ++ [r]) = r.stop
  | [], a, r => rfl
  | x :: l, a, r => rV l x.stop r
theorem qG : ∀ (l : List Rc) (e : Option Nat) (r : Rc), epL e (l ++ [r]) = some r.epoch
  | [], e, r => rfl
  | x :: l, e, r => qG l (some x.epoch) r
theorem epL_cons {l : List Rc} (h : 0 < l.length) : ∃ e, epL none l = some e := by
  obtain ⟨l', r, rfl⟩ : ∃ l' r, l = l' ++ [r] := by
    rcases List.eq_nil_or_concat l with h' | ⟨l', r, h'⟩
    · rw [h'] at h; simp at h
    · exact ⟨l', r, by rw [h', List.concat_eq_append]⟩
  exact ⟨_, qG _ _ _⟩
theorem j6 {w0 : World} {H : List Hp} {R : List MP} {K : Value → List Hp → List MP → Prop} (A0 : Option Addr) (c0 : Nat) (xs : List UInt8) (from_ limit : Nat) (hb : xs.length ≤ 600000) (hal : from_ ≤ limit) (hlb : limit ≤ xs.length)
    (hm : Sl (.slice A0 xs.length c0) xs ∈ R) (l : List Rc) (hl : iF xs limit (xs.length + 1) from_ 0 none = l)
    (k : ∀ A c, K (.agg #[.slice A l.length c, .int .i64 (uJ l), .int .i64 ((jK from_ l : Nat) : Int)]) H (Sl (.slice A l.length c) (l.map Rc.toR) :: R)) : CallsK Tryz.prog w0 117 #[.slice A0 xs.length c0, .int .i64 (from_ : Int), .int .i64 (limit : Int)] H R K := by
  refine bV Tryz.func117 rfl Tryz.ntmps117 fI ?_
  repeat' (first | (refine bJ rfl rfl ?_; refine bL cW (fun b7 => ?_); refine aB ?_) | (apply aF) | (apply aA) | (apply aV) | (apply aH) | (apply aD) | (apply bE; exact rfl; ((refine aN (i := 0) rfl cW rfl dT dB eK ?_)); refine aB ?_; refine cE ?_) | (refine aE rfl rfl ?_; ((first | refine aG ?_ | refine dI gG ?_)); refine aB ?_))
  rename_i b6
  refine mN 135 4 ?_
  refine qL (Cx [] ([] : List RecD)) (fun s _ => gN s) ?_
  refine cM [8, 9, 12, 13, 14, 15, 16, 17, 18, 19, 20, 21, 22, 23, 24, 25, 26, 27, 28, 29, 30, 31, 32, 33, 34, 35, 36, 37, 38, 39, 40, 41, 42, 43, 44, 45, 46, 47, 48, 49, 50, 51, 52, 53, 54, 55, 56, 57, 58, 59] (fun m j H' R' => ∃ (pre : List Rc) (Ap : Option Addr) (cp : Nat) (cs : List Value), m + pre.length = xs.length + 1 ∧ l = pre ++ iF xs limit m (jK from_ pre) pre.length (epL none pre) ∧ from_ + 21 * pre.length ≤ jK from_ pre ∧ jK from_ pre ≤ limit ∧
    (Cx cs (pre.map Rc.toR) :: R) = R' ∧ (.row (.slice Ap pre.length cp) 135 4 pre.length cs :: .blk b7 [.slice Ap pre.length cp, .int .i64 (uJ pre), .int .i64 ((jK from_ pre : Nat) : Int)] 128 :: .blk b6 [.slice none 0 0, .int .i64 0, .int .i64 0] 128 :: H) = H') (xs.length + 1) eS ⟨[], none, 0, [], rfl, hl.symm, by simp [jK], by simpa [jK] using hal, rfl, rfl⟩ ?_
  rintro m j H' R' ⟨pre, Ap, cp, cs, hml, hre, hge, hle, hR, hH⟩
  subst hR hH
  refine dD (by simp only [eF, List.foldl_cons, List.foldl_nil, List.set_cons_succ, List.set_cons_zero]; rfl) ?_
  obtain ⟨a, ha⟩ : ∃ a, jK from_ pre = a := ⟨_, rfl⟩
  rw [ha] at hre hge hle ⊢
  have hm0 : 0 < m := by omega
  have hlm : (pre.map Rc.toR).length = pre.length := by simp
  have HRe := Go.Lib.hid hre
  clear hre hl
  by_cases hx : (fU xs a limit).2 = true
  · obtain ⟨r, hr⟩ : ∃ r, (fU xs a limit).1 = r := ⟨_, rfl⟩
    obtain ⟨⟨o1, o2, o3⟩, o4, o5, o6⟩ := oP aO hx
    rw [hr] at o1 o2 o3 o4 o5 o6
    have hrr : uG xs a limit = (⟨(r.at_ : Int), r.epoch, r.seq, r.data.length⟩, true) := by unfold uG; rw [if_pos hx, hr]; rfl
    simp only [Rc.stop] at o1 o5 o6
    by_cases hg : r.seq = pre.length ∧ (∀ e, epL none pre = some e → r.epoch = e)
    · have h1 := hg.1
      have h2 : 0 < pre.length → (r.epoch : Int) = uJ pre := fun h => by
        obtain ⟨e, he⟩ := epL_cons h
        rw [uJ, he, hg.2 e he]; rfl
      have e1 : ((jK from_ (pre ++ [r]) : Nat) : Int) = (r.at_ : Int) + 21 + (r.data.length : Int) := by rw [rV]; simp [Rc.stop]
      have e2 : uJ (pre ++ [r]) = (r.epoch : Int) := by rw [uJ, qG]; rfl
      have e3 : (pre ++ [r]).length = pre.length + 1 := by simp
      have e4 : (pre ++ [r]).map Rc.toR = pre.map Rc.toR ++ [r.toR] := by simp
      have e5 : jK from_ (pre ++ [r]) = r.stop := rV _ _ _
      have hnext : iF xs limit m a pre.length (epL none pre) = r :: iF xs limit (m - 1) r.stop (pre.length + 1) (some r.epoch) := by
        rw [xI hm0 ⟨hx, by rw [hr]; exact hg.1, by rw [hr]; exact hg.2⟩, hr]
      repeat' (first | (refine dK rfl ?_; refine aT fA ?_; refine rO _ _ xs a limit hb hle hlb aX ?_; rw [hrr]; refine aB ?_) | (refine bJ rfl rfl ?_; refine bL cW (fun b8 => ?_); refine aB ?_) | (refine bJ rfl rfl ?_; refine dF 2 0 rfl rfl rfl rfl cQ rfl eK aO aO (fun pv' => ?_); refine aB ?_; refine cE ?_; refine gY 2 rfl (fun A6 c6 hv => ?_); subst hv; refine iY (Cx (cs ++ [.int .i64 (r.at_ : Int), .int .i64 (r.epoch : Int), .int .i64 (r.seq : Int), .int .i64 (r.data.length : Int)]) (pre.map Rc.toR ++ [r.toR])) (fun s hs => eZ (hs (Cx cs (pre.map Rc.toR)) aX) ⟨rfl, by simp only [dO, Rc.toR]; omega⟩) ?_) | (apply aF) | (apply aA) | (apply aV) | (apply bF) | (apply aJ; exact rfl) | (apply aH) | (apply aD) | (apply bU) | (apply aP; exact rfl; ((first | refine aL (i := 0) rfl rfl rfl ?_ | refine aL (i := 1) rfl rfl rfl ?_ | refine aL (i := 2) rfl rfl rfl ?_)); refine aB ?_) | (apply aU; exact rfl; ((refine bM rfl rfl aO aO ?_)); refine aB ?_) | (apply aU; exact rfl; ((first | refine fD rfl rfl (fun h => ?_) (fun h => ?_) | refine eD rfl rfl (fun h => ?_) (fun h => ?_))) <;> (first | (exfalso; omega) | refine aB ?_)) | (apply bE; exact rfl; ((first | refine aN (i := 0) rfl cW rfl dT dB eK ?_ | refine aN (i := 2) rfl cW rfl dT dB eK ?_ | refine aN (i := 3) rfl cW rfl dT dB eK ?_)); refine aB ?_; refine cE ?_) | (refine aE rfl rfl ?_; ((first | refine aG ?_ | refine aY ?_ | refine bX rfl eR ?_ | refine cH rfl eR ?_ | refine aC rfl ?_ | refine bS rfl ?_ | refine cD rfl rfl ?_ | refine dJ rfl ?_)); refine aB ?_) | (refine cX rfl ?_; refine aB ?_) | (refine bJ rfl rfl ?_; ((refine bK cQ fP rfl (fun b => ?_))); refine aB ?_))
      all_goals
        refine cJ (m - 1) (.row (.slice A6 (pre.length + 1) c6) 135 4 (pre.length + 1) (cs ++ [.int .i64 (r.at_ : Int), .int .i64 (r.epoch : Int), .int .i64 (r.seq : Int), .int .i64 (r.data.length : Int)]) :: .blk b7 [.slice A6 (pre.length + 1) c6, .int .i64 (r.epoch : Int), .int .i64 ((r.at_ : Int) + 21 + (r.data.length : Int))] 128 :: .blk b6 [.slice none 0 0, .int .i64 0, .int .i64 0] 128 :: H) (Cx (cs ++ [.int .i64 (r.at_ : Int), .int .i64 (r.epoch : Int), .int .i64 (r.seq : Int), .int .i64 (r.data.length : Int)]) (pre.map Rc.toR ++ [r.toR]) :: R) aO eS ⟨pre ++ [r], A6, c6, cs ++ [.int .i64 (r.at_ : Int), .int .i64 (r.epoch : Int), .int .i64 (r.seq : Int), .int .i64 (r.data.length : Int)], by rw [e3]; omega, ?_, by rw [e3, e5]; simp only [Rc.stop]; omega, by rw [e5]; simp only [Rc.stop]; omega, by rw [e4], by rw [e1, e2, e3]⟩ dV
        rw [HRe.out, hnext, e5, e3, qG]; simp
    · have hbad : r.seq ≠ pre.length ∨ (0 < pre.length ∧ (r.epoch : Int) ≠ uJ pre) := by
        by_cases hs : r.seq = pre.length
        · right
          rcases Nat.eq_zero_or_pos pre.length with h0 | h0
          · exfalso
            have : pre = [] := List.eq_nil_of_length_eq_zero h0
            subst this
            exact hg ⟨hs, fun e he => by simp [epL] at he⟩
          · refine ⟨h0, fun he => hg ⟨hs, fun e h' => ?_⟩⟩
            rw [uJ, h'] at he
            have : (r.epoch : Int) = (e : Int) := he
            omega
        · exact .inl hs
      have hfin : l = pre := by rw [HRe.out, rD (fun h => hg (by rw [hr] at h; exact ⟨h.2.1, h.2.2⟩)), List.append_nil]
      have hk : ∀ A c, K (.agg #[.slice A pre.length c, .int .i64 (uJ pre), .int .i64 (a : Int)]) H (Sl (.slice A pre.length c) (pre.map Rc.toR) :: R) := fun A c => by
        have := k A c
        rw [hfin, ha] at this; exact this
      repeat' (first | (refine dK rfl ?_; refine aT fA ?_; refine rO _ _ xs a limit hb hle hlb aX ?_; rw [hrr]; refine aB ?_) | (refine bJ rfl rfl ?_; refine bL cW (fun b8 => ?_); refine aB ?_) | (apply aF) | (apply aA) | (apply aV) | (apply bP) | (apply aK; exact rfl) | (apply aH) | (apply aD) | (apply bN) | (apply dQ) | (apply aP; exact rfl; ((first | refine aL (i := 0) rfl rfl rfl ?_ | refine aL (i := 1) rfl rfl rfl ?_ | refine aL (i := 2) rfl rfl rfl ?_)); refine aB ?_) | (apply aU; exact rfl; ((first | refine fD rfl rfl (fun h => ?_) (fun h => ?_) | refine eD rfl rfl (fun h => ?_) (fun h => ?_))) <;> (first | (exfalso; omega) | refine aB ?_)) | (apply bE; exact rfl; ((first | refine aN (i := 0) rfl cW rfl dT dB eK ?_ | refine aN (i := 3) rfl cW rfl dT dB eK ?_)); refine aB ?_; refine cE ?_) | (refine aE rfl rfl ?_; ((first | refine aG ?_ | refine aY ?_ | refine bX rfl eR ?_ | refine cH rfl eR ?_ | refine aC rfl ?_ | refine bS rfl ?_ | refine cD rfl rfl ?_ | refine dJ rfl ?_)); refine aB ?_) | (refine cX rfl ?_; refine aB ?_))
      all_goals
        refine eH (xs := pre.map Rc.toR) 1 rfl rfl cQ aX (fun A c hv => ?_)
        injection hv with v1 v2 v3
        subst v1 v3
        rw [hlm]
        exact aZ (.inl rfl) (dP rfl (dC (i := 2) rfl rfl rfl)) (cA H _ dV (hk _ _))
  · have hrr : uG xs a limit = (⟨0, 0, 0, 0⟩, false) := by unfold uG; rw [if_neg hx]
    have hfin : l = pre := by rw [HRe.out, rD (fun h => hx h.1), List.append_nil]
    have hk : ∀ A c, K (.agg #[.slice A pre.length c, .int .i64 (uJ pre), .int .i64 (a : Int)]) H (Sl (.slice A pre.length c) (pre.map Rc.toR) :: R) := fun A c => by
      have := k A c
      rw [hfin, ha] at this; exact this
    repeat' (first | (refine dK rfl ?_; refine aT fA ?_; refine rO _ _ xs a limit hb hle hlb aX ?_; rw [hrr]; refine aB ?_) | (refine bJ rfl rfl ?_; refine bL cW (fun b8 => ?_); refine aB ?_) | (apply aF) | (apply aA) | (apply aV) | (apply bP) | (apply aK; exact rfl) | (apply aH) | (apply aD) | (apply bN) | (apply dQ) | (apply aP; exact rfl; ((first | refine aL (i := 1) rfl rfl rfl ?_ | refine aL (i := 2) rfl rfl rfl ?_)); refine aB ?_) | (apply bE; exact rfl; ((first | refine aN (i := 0) rfl cW rfl dT dB eK ?_ | refine aN (i := 3) rfl cW rfl dT dB eK ?_)); refine aB ?_; refine cE ?_) | (refine aE rfl rfl ?_; ((first | refine aG ?_ | refine aY ?_ | refine bX rfl eR ?_ | refine aC rfl ?_ | refine cD rfl rfl ?_ | refine dJ rfl ?_)); refine aB ?_) | (refine cX rfl ?_; refine aB ?_))
    refine eH (xs := pre.map Rc.toR) 1 rfl rfl cQ aX (fun A c hv => ?_)
    injection hv with v1 v2 v3
    subst v1 v3
    rw [hlm]
    exact aZ (.inl rfl) (dP rfl (dC (i := 2) rfl rfl rfl)) (cA H _ dV (hk _ _))

end Go.Proofs.YtggdljhmbckpmaaGreat
namespace Go.Proofs.YtggdljhmbckpmaaGreat
open Go Go.RowKit
set_option maxRecDepth 100000
set_option maxHeartbeats 1600000

theorem wF {b : List UInt8} {h : Nat} (hb : b.length ≤ 600000) (hh : h ≤ 1) : (eP b h = [] → uJ (eP b h) = -1) ∧ (0 < (eP b h).length → uJ (eP b h) = (((eP b h).getD 0 Rc.zero).epoch : Int)) := by
  refine ⟨fun h0 => by rw [h0]; rfl, fun h0 => ?_⟩
  have hne : eP b h ≠ [] := List.length_pos_iff.1 h0
  have := vI (eP b h) none ((eP b h)[0]'h0).epoch (fun r hr => by
    obtain ⟨i, hi, rfl⟩ := List.mem_iff_getElem.1 hr
    exact (sJ hb hh i hi).2.2.1) (fun h => absurd h hne)
  rw [uJ, this, oX _ h0]; rfl
theorem cur_ep {b : List UInt8} (hb : b.length ≤ 600000) : (uJ (eP b 0) < uJ (eP b 1) → jA b = (eP b 1, 1)) ∧ (¬ uJ (eP b 0) < uJ (eP b 1) → jA b = (eP b 0, 0)) := by
  obtain ⟨x1, x2⟩ := wF (h := 0) hb aO
  obtain ⟨y1, y2⟩ := wF (h := 1) hb aO
  rcases Nat.eq_zero_or_pos (eP b 0).length with hx | hx
  · have hx0 := List.eq_nil_of_length_eq_zero hx
    rw [x1 hx0]
    rcases Nat.eq_zero_or_pos (eP b 1).length with hy | hy
    · have hy0 := List.eq_nil_of_length_eq_zero hy
      rw [y1 hy0]
      refine ⟨fun h => by omega, fun _ => ?_⟩
      rw [pB, if_neg (fun hh => by omega)]
    · rw [y2 hy]
      refine ⟨fun _ => ?_, fun h => by omega⟩
      rw [pB, if_pos ⟨hy, .inl hx⟩]
  · rw [x2 hx]
    rcases Nat.eq_zero_or_pos (eP b 1).length with hy | hy
    · have hy0 := List.eq_nil_of_length_eq_zero hy
      rw [y1 hy0]
      refine ⟨fun h => by omega, fun _ => ?_⟩
      rw [pB, if_neg (fun hh => by omega)]
    · rw [y2 hy]
      refine ⟨fun h => ?_, fun h => ?_⟩
      · rw [pB, if_pos ⟨hy, .inr aO⟩]
      · rw [pB, if_neg (fun hh => by rcases hh.2 with h' | h' <;> omega)]
theorem tY {w0 : World} {H : List Hp} {R : List MP} {K : Value → List Hp → List MP → Prop} (A0 : Option Addr) (c0 : Nat) (xs : List UInt8) (hb : xs.length ≤ 600000)
    (hm : Sl (.slice A0 xs.length c0) xs ∈ R) (l : List Rc) (half : Nat) (hcur : jA xs = (l, half))
    (k : ∀ A c, K (.tuple #[.agg #[.slice A l.length c, .int .i64 (uJ l), .int .i64 ((jK (half * xs.length / 2) l : Nat) : Int)], .int .i64 (half : Int)]) H (Sl (.slice A l.length c) (l.map Rc.toR) :: R)) : CallsK Tryz.prog w0 60 #[.slice A0 xs.length c0] H R K := by
  obtain ⟨sz, hsz⟩ : ∃ sz, xs.length / 2 = sz := ⟨_, rfl⟩
  have hszi : (xs.length : Int) / 2 = (sz : Int) := by omega
  obtain ⟨l0, hl0⟩ : ∃ l0, eP xs 0 = l0 := ⟨_, rfl⟩
  obtain ⟨l1, hl1⟩ : ∃ l1, eP xs 1 = l1 := ⟨_, rfl⟩
  have hr0 : iF xs sz (xs.length + 1) 0 0 none = l0 := by rw [← hl0, recsB0, hsz]
  have hr1 : iF xs xs.length (xs.length + 1) sz 0 none = l1 := by rw [← hl1, recsB1, hsz]
  obtain ⟨g1, g2⟩ := cur_ep hb
  rw [hl0, hl1] at g1 g2
  have G1 := Go.Lib.hid g1
  have G2 := Go.Lib.hid g2
  clear g1 g2
  refine bV Tryz.func60 rfl Tryz.ntmps60 fI ?_
  repeat' (first | ((with_reducible rw [hszi])) | (refine dK rfl ?_; refine aT fA ?_; refine j6 _ _ xs 0 sz hb (Nat.zero_le _) aO aX l0 hr0 (fun Ax cx => ?_); refine aB ?_) | (refine dK rfl ?_; refine aT fA ?_; refine j6 _ _ xs sz xs.length hb aO (Nat.le_refl _) aX l1 hr1 (fun Ay cy => ?_); refine aB ?_) | (apply aF) | (apply aA) | (apply bP) | (apply bF) | (apply aK; exact rfl) | (apply aJ; exact rfl) | (apply aH) | (apply aD) | (apply bN) | (apply aP; exact rfl; ((first | refine aL (i := 0) rfl rfl rfl ?_ | refine aL (i := 1) rfl rfl rfl ?_)); refine aB ?_) | (apply aU; exact rfl; ((refine kT rfl rfl aO aO aO ?_)); refine aB ?_) | (apply aU; exact rfl; ((refine fD rfl rfl (fun h => ?_) (fun h => ?_))) <;> (refine aB ?_)) | (apply bE; exact rfl; ((first | refine aN (i := 0) rfl cW rfl dT dB eK ?_ | refine aN (i := 2) rfl cW rfl dT dB eK ?_)); refine aB ?_; refine cE ?_) | (refine aE rfl rfl ?_; ((first | refine aG ?_ | refine aY ?_ | refine aC rfl ?_ | refine bS rfl ?_)); refine aB ?_) | (refine bJ rfl rfl ?_; ((refine bL cW (fun b => ?_))); refine aB ?_))
  · have e := G1.out aO
    rw [e] at hcur
    injection hcur with q1 q2
    subst q1 q2
    have k' := fun A c => by
      have := k A c
      rw [Nat.one_mul, hsz] at this; exact this
    exact aZ (.inl rfl) (iN rfl (dC (i := 2) rfl rfl rfl) (bR rfl)) (cA H _ dV (k' _ _))
  · have e := G2.out aO
    rw [e] at hcur
    injection hcur with q1 q2
    subst q1 q2
    have k' := fun A c => by
      have := k A c
      rw [Nat.zero_mul, Nat.zero_div] at this; exact this
    exact aZ (.inl rfl) (iN rfl (dC (i := 2) rfl rfl rfl) (bR rfl)) (cA H _ dV (k' _ _))
end Go.Proofs.YtggdljhmbckpmaaGreat
namespace Go.Proofs.YtggdljhmbckpmaaGreat
open Go Go.RowKit
set_option maxRecDepth 100000
set_option maxHeartbeats 1600000

theorem vG {w0 : World} {H : List Hp} {R : List MP} {K : Value → List Hp → List MP → Prop} (A : Option Addr) (c : Nat) (A2 : Option Addr) (c2 : Nat) (d : Drive) (hb : d.bytes.length ≤ 9223372036854775807) (hp : d.pending.length ≤ 9223372036854775807)
    (hm : Sl (.slice A d.bytes.length c) d.bytes ∈ R) (hm2 : Sl (.slice A2 d.pending.length c2) d.pending ∈ R)
    (kt : eW d = true → (gW d).length ≤ 600000 → K (.int .i64 0) H R) (kf : eW d = false → K (.int .i64 301) H R) : CallsK Tryz.prog w0 59 #[dv A c A2 c2 d] H R K := by
  refine qT A c A2 c2 d hb hp hm hm2 ?_
  unfold iX
  cases hc : eW d
  · exact kf hc
  · exact kt hc (by rw [fM hc]; exact (fX hc).2.1)
theorem e9 {w0 : World} {H : List Hp} {R : List MP} {K : Value → List Hp → List MP → Prop} (A0 : Option Addr) (c0 : Nat) (A2 : Option Addr) (c2 : Nat) (d : Drive) (hb : d.bytes.length ≤ 9223372036854775807) (hp : d.pending.length ≤ 9223372036854775807)
    (hm : Sl (.slice A0 d.bytes.length c0) d.bytes ∈ R) (hm2 : Sl (.slice A2 d.pending.length c2) d.pending ∈ R)
    (k : KC K (kX d) H R) : CallsK Tryz.prog w0 18 #[dv A0 c0 A2 c2 d] H R K := by
  obtain ⟨l, half, hcur⟩ : ∃ l half, jA (gW d) = (l, half) := ⟨_, _, rfl⟩
  have hlen : (gW d).length ≤ 600000 → l.length ≤ 600000 := fun h => by have := mP h; rw [hcur] at this; exact this
  refine bV Tryz.func18 rfl Tryz.ntmps18 fI ?_
  repeat' (first | (refine dK rfl ?_; refine aT fA ?_; refine vG _ _ _ _ d hb hp hm hm2 (fun hc hcl6 => ?_) (fun hc => ?_) <;> refine aB ?_) | (refine dK rfl ?_; refine aT fA ?_; refine rhas_k _ _ _ _ d hc hm hm2 (fun v => ?_); refine aB ?_; refine hZ 0 rfl (fun A' c' hv => ?_); subst hv; refine cE ?_) | (refine dK rfl ?_; refine aT fA ?_; refine tY _ _ (gW d) hcl6 aX l half hcur (fun A3 c3 => ?_); have hl6 := hlen hcl6; refine aB ?_) | (refine bJ rfl rfl ?_; refine bL cW (fun b8 => ?_); refine aB ?_) | (apply aF) | (apply aA) | (apply bP) | (apply bF) | (apply aK; exact rfl) | (apply aJ; exact rfl) | (apply aH) | (apply aD) | (apply bN) | (apply aP; exact rfl; ((first | refine aL (i := 0) rfl rfl rfl ?_ | refine aL (i := 1) rfl rfl rfl ?_)); refine aB ?_) | (apply aU; exact rfl; ((refine eY rfl rfl aO aO ?_)); refine aB ?_) | (apply aU; exact rfl; ((first | refine fZ rfl rfl (fun h => ?_) (fun h => ?_) | refine eD rfl rfl (fun h => ?_) (fun h => ?_))) <;> (first | (exfalso; omega) | refine aB ?_)) | (apply bE; exact rfl; ((first | refine aN (i := 0) rfl cW rfl dT dB eK ?_ | refine aN (i := 1) rfl cW rfl dT dB eK ?_)); refine aB ?_; refine cE ?_) | (refine aE rfl rfl ?_; ((first | refine aG ?_ | refine aY ?_ | refine aC rfl ?_ | refine bS rfl ?_ | refine cD rfl rfl ?_ | refine dI gG ?_)); refine aB ?_) | (refine bJ rfl rfl ?_; ((refine dX cW (fun b => ?_))); refine aB ?_))
  · have k' := xO (r' := ([], 302)) (by unfold kX; rw [if_pos hc, hcur, if_pos (by show l.length = 0; omega)]) k none 0
    exact aZ (.inl rfl) (dP rfl (dC (i := 1) rfl rfl rfl)) (cA H (Sl (.slice none 0 0) ([] : List UInt8) :: R) (fun w hs => (hs.weaken eB hP).sl_nil UInt8) k')
  · obtain ⟨r, hr⟩ : ∃ r, l[l.length - 1]? = some r := ⟨_, List.getElem?_eq_getElem aO⟩
    have hlB := fM hc
    obtain ⟨c1, c2', c3', c4, c5⟩ := fX hc
    obtain ⟨sz, hsz⟩ : ∃ sz, (gW d).length = 2 * sz := ⟨(gW d).length / 2, by omega⟩
    obtain ⟨g1, g2, g3, g4, g5, g6, g7, g8⟩ := vN hsz aO hcur _ r hr
    have hi : ((l.length : Int) - 1) = ((l.length - 1 : Nat) : Int) := by omega
    have hL : ((r.at_ : Int) + 17 + (r.data.length : Int)).toNat - ((r.at_ : Int) + 17).toNat = r.data.length := by omega
    have hS : ((gW d).take ((r.at_ : Int) + 17 + (r.data.length : Int)).toNat).drop ((r.at_ : Int) + 17).toNat = r.data := by
      rw [show ((r.at_ : Int) + 17 + (r.data.length : Int)).toNat = r.at_ + 17 + r.data.length by omega, show ((r.at_ : Int) + 17).toNat = r.at_ + 17 by omega]; exact g8
    have k' := xO (r' := (r.data, 0)) (by unfold kX; rw [if_pos hc, hcur, if_neg (by show ¬ l.length = 0; omega)]; show ((l.getD (l.length - 1) Rc.zero).data, (0 : Int)) = _; rw [List.getD_eq_getElem?_getD, hr]; rfl) k
    repeat' (first | (apply gZ; exact rfl; refine yE (l.length - 1) rfl rfl aX rfl hr hi (fun bI oI => ?_); refine aB ?_) | (refine bJ rfl rfl ?_; refine bL cW (fun b9 => ?_); refine aB ?_) | (refine bJ rfl rfl ?_; refine rH rfl cQ (fun bz => ?_); refine aB ?_) | (refine aE rfl rfl ?_; refine fY (xs := gW d) rfl aX rfl rfl rfl rfl aO aO aO (fun A8 c8 => ?_); rw [hL, hS]; refine aB ?_) | (refine bJ rfl rfl ?_; refine gK (xs := r.data) 0 rfl rfl aX rfl rfl aO aO (fun v => ?_); refine aB ?_; refine cE ?_; refine hZ (xs := r.data) 0 rfl (fun A5 c5' hv => ?_); subst hv; refine cE ?_) | (apply aF) | (apply aA) | (apply bP) | (apply aH) | (apply aD) | (apply aP; exact rfl; ((first | refine aL (i := 1) rfl rfl rfl ?_ | refine bD rfl cL rfl ?_)); refine aB ?_) | (apply aU; exact rfl; ((refine bM rfl rfl aO aO ?_)); refine aB ?_) | (apply bE; exact rfl; ((first | refine aN (i := 0) rfl cW rfl dT dB eK ?_ | refine aN (i := 2) rfl cW rfl dT dB eK ?_)); refine aB ?_; refine cE ?_) | (refine aE rfl rfl ?_; ((first | refine aG ?_ | refine aC rfl ?_ | refine dI gG ?_)); refine aB ?_))
    exact aZ (.inl rfl) (dP rfl (dC (i := 2) rfl rfl rfl)) (cA H _ dV (k' _ _))
  · refine aZ (.inl rfl) (dP rfl (dC (i := 0) rfl rfl rfl)) (cA H (Sl (.slice none 0 0) ([] : List UInt8) :: R) (fun w hs => (hs.weaken eB (fun _ h => h)).sl_nil UInt8) ?_)
    exact xO (r' := ([], 301)) (by unfold kX; rw [hc]; rfl) k none 0
end Go.Proofs.YtggdljhmbckpmaaGreat
namespace Go.Proofs.YtggdljhmbckpmaaGreat
open Go Go.RowKit
set_option maxRecDepth 100000
set_option maxHeartbeats 3200000

theorem epN_fst {b : List UInt8} {l : List Rc} {half : Nat} (hb : b.length ≤ 600000) (hcur : jA b = (l, half)) (h : 0 < l.length) : uJ l = ((l.getD 0 Rc.zero).epoch : Int) := by
  obtain ⟨c1, c2, _⟩ := rS hcur
  have := (wF (h := half) hb c1).2
  rw [← c2] at this
  exact this h
/-- Where the reference puts its record, from what is read. -/
theorem spot_ref {b : List UInt8} {l : List Rc} {half sz : Nat} (n : Nat) (hb : b.length = 2 * sz) (hs : sz ≤ 300000) (hcur : jA b = (l, half)) (hl : 0 < l.length) :
    ∃ e a : Nat, uJ l = (e : Int) ∧ jK (half * b.length / 2) l = a ∧ a ≤ 600000 ∧ e < 4294967296 ∧ l.length ≤ 600000 ∧ ((half + 1) * sz < n + a → mE l half sz n = ⟨(1 - half) * sz, e + 1, 0, 1 - half⟩) ∧ (¬ (half + 1) * sz < n + a → mE l half sz n = ⟨a, e, l.length, half⟩) := by
  obtain ⟨r, hr⟩ : ∃ r, l[l.length - 1]? = some r := ⟨_, List.getElem?_eq_getElem aO⟩
  obtain ⟨g1, g2, g3, g4, g5, g6, g7, g8⟩ := vN hb hs hcur _ r hr
  obtain ⟨_, ⟨o1, o2, o3⟩, _⟩ := And.intro trivial (And.intro (oP (b := b) (at_ := r.at_) (limit := (half + 1) * sz) aO (by rw [g7])).1 trivial)
  rw [g7] at o1 o2 o3
  simp only at o1 o2 o3
  have hll := mP (b := b) aO
  rw [hcur] at hll
  have e1 : half * b.length / 2 = half * sz := by rw [hb, Nat.mul_left_comm, Nat.mul_div_cancel_left _ cQ]
  have e2 : l.take (l.length - 1 + 1) = l := by rw [show l.length - 1 + 1 = l.length by omega, List.take_length]
  rw [e2] at g4
  have e3 : l.getD (l.length - 1) Rc.zero = r := by rw [List.getD_eq_getElem?_getD, hr]; rfl
  have e4 : r.stop = r.at_ + 21 + r.data.length := rfl
  refine ⟨r.epoch, r.at_ + 21 + r.data.length, by rw [epN_fst aO hcur hl, g3], by rw [e1]; exact g4, by omega, by omega, hll, fun h => ?_, fun h => ?_⟩
  · unfold mE
    rw [if_neg aO, e3, e4, if_pos h]
  · unfold mE
    rw [if_neg aO, e3, e4, if_neg h, g2, show l.length - 1 + 1 = l.length by omega]
end Go.Proofs.YtggdljhmbckpmaaGreat
