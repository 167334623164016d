/- Append: walks. The examples' values; done: walk. -/
import Derived.Test.YtggdljhmbckpmaaGreatF7J
import Derived.Test.YtggdljhmbckpmaaGreatF11J
import Derived.Test.YtggdljhmbckpmaaGreatF2J
import Derived.Test.YtggdljhmbckpmaaGreatE6J
import Derived.Test.YtggdljhmbckpmaaGreatE5J
import Derived.KernelRfl
set_option linter.unusedVariables false
set_option linter.unusedSimpArgs false
namespace Go.Proofs.YtggdljhmbckpmaaGreat
open Go Go.RowKit
set_option maxRecDepth 100000
set_option maxHeartbeats 1600000

/-- Operations and an errno are returned, the operations for good. -/
def KO (K : Value → List Hp → List MP → Prop) (r : List DO × Int) (H : List Hp) (R : List MP) : Prop := ∀ A c, K (.tuple #[.slice A r.1.length c, .int .i64 r.2]) H (Sl (.slice A r.1.length c) r.1 :: R)
theorem uP {K : Value → List Hp → List MP → Prop} {r r' : List DO × Int} {H : List Hp} {R : List MP} (e : r = r') (h : KO K r H R) : KO K r' H R := e ▸ h
structure Spot where
  at_ : Nat
  epoch : Nat
  seq : Nat
  half : Nat
/-- Where the next record comes to stand. -/
def mE (l : List Rc) (half size n : Nat) : Spot :=
  if l.length = 0 then ⟨0, 1, 0, half⟩
  else if (half + 1) * size < n + (l.getD (l.length - 1) Rc.zero).stop then ⟨(1 - half) * size, (l.getD (l.length - 1) Rc.zero).epoch + 1, 0, 1 - half⟩
  else ⟨(l.getD (l.length - 1) Rc.zero).stop, (l.getD (l.length - 1) Rc.zero).epoch, (l.getD (l.length - 1) Rc.zero).seq + 1, half⟩
def sO (p : Spot) (size : Nat) (data : List UInt8) : List DO × Int :=
  if 2147483647 < p.epoch ∨ 2147483647 < p.seq then ([], 2)
  else ([⟨1, p.at_, [0]⟩, ⟨2, 0, []⟩, ⟨1, (p.at_ + 1 : Nat), (lW p.epoch p.seq data).drop 1 ++ (if p.at_ + (21 + data.length) < (p.half + 1) * size then [0] else [])⟩, ⟨2, 0, []⟩, ⟨1, p.at_, [167]⟩, ⟨2, 0, []⟩], 0)
def iG (d : Drive) (data : List UInt8) : List DO × Int :=
  if eW d then (if (gW d).length / 2 < 21 + data.length then ([], 303) else sO (mE (jA (gW d)).1 (jA (gW d)).2 ((gW d).length / 2) (21 + data.length)) ((gW d).length / 2) data) else ([], 301)
theorem m7 (b : List UInt8) : (jA b).2 ≤ 1 := by
  unfold jA
  have key : ∀ h, (lH b h).2 ≤ h - 1 := by
    intro h
    induction h with
    | zero => simp [lH]
    | succ h ih =>
      unfold lH
      split
      · simp
      · omega
  exact key 2

theorem kD {w0 : World} {H : List Hp} {R : List MP} {K : Value → List Hp → List MP → Prop} (at_ : Int) (A : Option Addr) (m c : Nat)
    (k : K (.agg #[.int .i64 1, .int .i64 at_, .slice A m c]) H R) : CallsK Tryz.prog w0 58 #[.int .i64 at_, .slice A m c] H R K := by
  refine bV Tryz.func58 rfl Tryz.ntmps58 fI ?_
  repeat' (first | (apply aF) | (apply aA) | (apply bP) | (apply aH) | (apply aD) | (apply bE; exact rfl; ((refine aN (i := 0) rfl cW rfl dT dB eK ?_)); refine aB ?_; refine cE ?_) | (refine aE rfl rfl ?_; ((first | refine aG ?_ | refine dI gG ?_)); refine aB ?_) | (refine bJ rfl rfl ?_; ((refine bL cW (fun b => ?_))); refine aB ?_))
  refine aZ (.inl rfl) (dP rfl (dC (i := 0) rfl rfl rfl)) (cA H R dV k)

theorem tV {w0 : World} {H : List Hp} {R : List MP} {K : Value → List Hp → List MP → Prop} (A0 : Option Addr) (c0 : Nat) (A2 : Option Addr) (c2 : Nat) (A3 : Option Addr) (c3 : Nat) (d : Drive) (data : List UInt8) (hb : d.bytes.length ≤ 9223372036854775807) (hp : d.pending.length ≤ 9223372036854775807) (hdl : data.length ≤ 9223372036854770000)
    (hm : Sl (.slice A0 d.bytes.length c0) d.bytes ∈ R) (hm2 : Sl (.slice A2 d.pending.length c2) d.pending ∈ R) (hm3 : Sl (.slice A3 data.length c3) data ∈ R)
    (k : KO K (iG d data) H R) : CallsK Tryz.prog w0 13 #[dv A0 c0 A2 c2 d, .slice A3 data.length c3] H R K := by
  refine bV Tryz.func13 rfl Tryz.ntmps13 fI ?_
  repeat' (first | (refine dK rfl ?_; refine aT fA ?_; refine mA _ _ _ _ d hb hp hm hm2 ?_; refine aB ?_) | (apply aF) | (apply aA) | (apply bP) | (apply bF) | (apply aK; exact rfl) | (apply aJ; exact rfl) | (apply aH) | (apply aD) | (apply bN) | (apply aP; exact rfl; ((refine aL (i := 0) rfl rfl rfl ?_)); refine aB ?_) | (apply aU; exact rfl; ((refine eD rfl rfl (fun h => ?_) (fun h => ?_))) <;> (refine aB ?_)) | (refine aE rfl rfl ?_; ((first | refine aG ?_ | refine aY ?_)); refine aB ?_) | (refine bJ rfl rfl ?_; ((refine dX cW (fun b => ?_))); refine aB ?_))
  · have hc : eW d = false := by unfold iX at h; cases hc : eW d <;> simp_all
    have e : iX d = 301 := by unfold iX; rw [hc]; rfl
    rw [e]
    refine aZ (.inl rfl) (iN rfl (bR rfl) (bR rfl)) (cA H (Sl (.slice none 0 0) ([] : List DO) :: R) (fun w hs => (hs.weaken eB (fun _ h => h)).sl_nil DO) ?_)
    exact uP (r' := ([], 301)) (by unfold iG; rw [hc]; rfl) k none 0
  have hc : eW d = true := by unfold iX at h; cases hc : eW d <;> simp_all
  have hlen := fM hc
  have h6 := (fX hc).2.1
  have hcl := mP (b := gW d) aO
  have hch := m7 (gW d)
  obtain ⟨rs, hrs⟩ : ∃ rs, (jA (gW d)).1 = rs := ⟨_, rfl⟩
  obtain ⟨half, hhf⟩ : ∃ half, (jA (gW d)).2 = half := ⟨_, rfl⟩
  obtain ⟨sz, hsz⟩ : ∃ sz, (gW d).length / 2 = sz := ⟨_, rfl⟩
  have hszi : ((gW d).length : Int) / 2 = (sz : Int) := by omega
  have hsz3 : sz ≤ 300000 := by omega
  rw [hrs] at hcl
  rw [hhf] at hch
  have k' := uP (r' := if sz < 21 + data.length then ([], 303) else sO (mE rs half sz (21 + data.length)) sz data) (by unfold iG; rw [if_pos hc, hrs, hhf, hsz]) k
  repeat' (first | (refine dK rfl ?_; refine aT fA ?_; refine j5 _ _ _ _ d hc hm hm2 (fun v => ?_); refine aB ?_; refine hZ 0 rfl (fun A' c' hv => ?_); subst hv; refine cE ?_) | ((with_reducible rw [hszi])) | (apply aF) | (apply aA) | (apply bP) | (apply bF) | (apply aK; exact rfl) | (apply aJ; exact rfl) | (apply aH) | (apply aD) | (apply bN) | (apply aU; exact rfl; ((first | refine bM rfl rfl aO aO ?_ | refine kT rfl rfl aO aO aO ?_)); refine aB ?_) | (apply aU; exact rfl; ((refine fD rfl rfl (fun h => ?_) (fun h => ?_))) <;> (refine aB ?_)) | (refine aE rfl rfl ?_; ((first | refine aG ?_ | refine aY ?_ | refine bS rfl ?_)); refine aB ?_))
  · rw [if_pos aO] at k'
    refine aZ (.inl rfl) (iN rfl (bR rfl) (bR rfl)) (cA H (Sl (.slice none 0 0) ([] : List DO) :: R) (fun w hs => (hs.weaken eB hP).sl_nil DO) (k' none 0))
  rw [if_neg aO] at k'
  refine dK rfl ?_; refine aT fA ?_; refine pW _ _ _ (gW d) rfl aO aX (fun A4 c4 => ?_); rw [hrs, hhf]; refine aB ?_
  repeat' ((refine aE rfl rfl ?_; ((first | refine aG ?_ | refine aY ?_ | refine cD rfl rfl ?_)); refine aB ?_))
  apply aH; apply aD; apply aF; apply aA
  repeat' ((refine aE rfl rfl ?_; ((refine aY ?_)); refine aB ?_))
  apply aH; apply aD
  have h01 : half = 0 ∨ half = 1 := by omega
  have hp1 : 0 ≤ ((half : Int) + 1) * (sz : Int) ∧ ((half : Int) + 1) * (sz : Int) ≤ 600000 := by
    rcases h01 with e | e <;> rw [e] <;> simp <;> omega
  have hp2 : 0 ≤ (1 - (half : Int)) * (sz : Int) ∧ (1 - (half : Int)) * (sz : Int) ≤ 600000 := by
    rcases h01 with e | e <;> rw [e] <;> simp <;> omega
  have hp4 : (1 - (half : Int)) * (sz : Int) = (((1 - half) * sz : Nat) : Int) ∧ (1 - (half : Int)) = ((1 - half : Nat) : Int) := by
    rcases h01 with e | e <;> rw [e] <;> simp
  have hp5 : sz ≤ (half + 1) * sz ∧ (1 - half + 1) * sz = (1 - half) * sz + sz :=
    ⟨Nat.le_mul_of_pos_left _ aO, by rw [Nat.add_mul, Nat.one_mul]⟩
  have hp3 : ((half : Int) + 1) * (sz : Int) = (((half + 1) * sz : Nat) : Int) := by push_cast; rfl
  refine eJ _ (Sl (.slice A4 rs.length c4) rs :: R) (fun w hs => hs.weaken (List.Sublist.refl _) hP) ?_
  refine jJ [11, 12, 13, 14, 15, 16, 41, 42, 43, 44, 45, 46, 47, 48, 49, 50, 51, 52, 53, 54, 55, 56, 57, 58, 59, 60, 61, 62, 63, 64, 65, 66, 67, 68, 69, 70, 71, 72] (fun j H' R' => ∃ p : Spot, mE rs half sz (21 + data.length) = p ∧ j 11 = .int .i64 (p.half : Int) ∧ j 12 = .int .i64 (p.at_ : Int) ∧ j 13 = .int .i64 (p.epoch : Int) ∧ j 14 = .int .i64 (p.seq : Int) ∧ H' = H ∧ R' = R ∧ p.at_ + 21 + data.length ≤ (p.half + 1) * sz ∧ p.half ≤ 1 ∧ p.epoch ≤ 4294967296 ∧ p.seq ≤ 4294967296) ?_ ?_
  · have hi : 0 < rs.length → ((rs.length : Int) - 1) = ((rs.length - 1 : Nat) : Int) := by omega
    repeat' (first | (rw [hi aO]; refine aE rfl rfl ?_; refine nD rfl rfl aX (List.getElem?_eq_getElem aO) (fun b' o A4 c4 hok => ?_); refine aB ?_) | (apply aF) | (apply aA) | (apply bF) | (apply aK; exact rfl) | (apply aJ; exact rfl) | (apply aH) | (apply aD) | (apply aP; exact rfl; ((refine bD rfl cL rfl ?_)); refine aB ?_) | (apply aU; exact rfl; ((refine eY rfl rfl aO aO ?_)); refine aB ?_) | (apply aU; exact rfl; ((refine fD rfl rfl (fun h => ?_) (fun h => ?_))) <;> (refine aB ?_)) | (apply bE; exact rfl; ((refine aN (i := 0) rfl cW rfl dT dB eK ?_)); refine aB ?_; refine cE ?_) | (refine aE rfl rfl ?_; ((first | refine aG ?_ | refine aY ?_ | refine bS rfl ?_)); refine aB ?_) | (refine bJ rfl rfl ?_; ((refine bL cW (fun b => ?_))); refine aB ?_))
    · have hlast : rs.getD (rs.length - 1) Rc.zero = rs[rs.length - 1]'aO := by simp [List.getD, show rs.length - 1 < rs.length by omega]
      obtain ⟨la, hla⟩ : ∃ la, rs[rs.length - 1]'aO = la := ⟨_, rfl⟩
      have hsp : mE rs half sz (21 + data.length) = if (half + 1) * sz < 21 + data.length + la.stop then ⟨(1 - half) * sz, la.epoch + 1, 0, 1 - half⟩ else ⟨la.stop, la.epoch, la.seq + 1, half⟩ := by unfold mE; rw [if_neg aO, hlast, hla]
      have HS := Go.Lib.hid hsp
      rw [hla] at hok ⊢
      clear hsp hlast hla
      have h1 := hok.1
      have h2 := hok.2.1
      have h3 := hok.2.2
      refine eC fK jN (fun _ _ _ _ _ _ h => nomatch h.1) eB ?_
      all_goals ((refine bY 0 eB ?_; ((refine aL (i := 0) rfl rfl rfl ?_)); refine aI ?_))
      all_goals ((refine bY 2 eB ?_; ((refine aC rfl ?_)); refine aI ?_))
      all_goals ((refine bY 3 eB ?_; ((refine aL (i := 0) rfl rfl rfl ?_)); refine aI ?_))
      all_goals ((refine bY 4 eB ?_; ((refine aC rfl ?_)); refine aI ?_))
      all_goals ((refine bY 5 eB ?_; ((refine aL (i := 0) rfl rfl rfl ?_)); refine aI ?_))
      all_goals ((refine bY 6 eB ?_; ((refine bM rfl rfl aO aO ?_)); refine aI ?_))
      -- left: [1, 7, 8, 9]; ready: [1]: ['call']
      refine gE 1 ?_
      refine aT fA ?_; refine end_k A4 c4 la aO ?_
      refine ⟨.inl dV, ?_⟩; refine aI ?_
      all_goals ((refine bY 7 eB ?_; ((refine aY ?_)); refine aI ?_))
      all_goals ((refine bY 8 eB ?_; ((refine aY ?_)); refine aI ?_))
      all_goals ((refine bY 9 eB ?_; ((refine aY ?_)); refine aI ?_))
      all_goals refine iC ?_
      repeat' (first | (apply aF) | (apply aA) | (apply bF) | (apply aK; exact rfl) | (apply aJ; exact rfl) | (apply aH) | (apply aD) | (apply aU; exact rfl; ((first | refine bM rfl rfl aO aO ?_ | refine eY rfl rfl aO aO ?_ | refine gR rfl rfl aO aO ?_)); refine aB ?_) | (apply aU; exact rfl; ((refine fD rfl rfl (fun h => ?_) (fun h => ?_))) <;> (refine aB ?_)) | (refine aE rfl rfl ?_; ((first | refine aG ?_ | refine aY ?_)); refine aB ?_))
      · skip
        refine eC fK jN (fun _ _ _ _ _ _ h => nomatch h.1) eB ?_
        all_goals ((refine bY 0 eB ?_; ((refine aG ?_)); refine aI ?_))
        all_goals ((refine bY 1 eB ?_; ((refine aG ?_)); refine aI ?_))
        all_goals ((refine bY 2 eB ?_; ((refine gR rfl rfl aO aO ?_)); refine aI ?_))
        all_goals ((refine bY 3 eB ?_; ((refine aC rfl ?_)); refine aI ?_))
        all_goals ((refine bY 4 eB ?_; ((refine aL (i := 0) rfl rfl rfl ?_)); refine aI ?_))
        all_goals ((refine bY 5 eB ?_; ((refine bM rfl rfl aO aO ?_)); refine aI ?_))
        all_goals ((refine bY 6 eB ?_; ((refine aY ?_)); refine aI ?_))
        all_goals ((refine bY 7 eB ?_; ((refine aY ?_)); refine aI ?_))
        all_goals ((refine bY 8 eB ?_; ((refine aY ?_)); refine aI ?_))
        all_goals refine iC ?_
        refine fQ H R eS ⟨⟨(1 - half) * sz, la.epoch + 1, 0, 1 - half⟩, ?_, congrArg (Value.int .i64) hp4.2, congrArg (Value.int .i64) hp4.1, by rw [Int.natCast_succ]; rfl, rfl, rfl, rfl, by simp only; omega, by simp only; omega, by simp only; omega, by simp only; omega⟩ dV
        rw [HS.out, if_pos aO]
      · refine fQ H R eS ⟨⟨la.stop, la.epoch, la.seq + 1, half⟩, ?_, rfl, rfl, rfl, by rw [Int.natCast_succ]; rfl, rfl, rfl, by simp only; omega, hch, by simp only; omega, by simp only; omega⟩ dV
        rw [HS.out, if_neg aO]
    · refine fQ H R eS ⟨⟨0, 1, 0, half⟩, ?_, rfl, rfl, rfl, rfl, rfl, rfl, by simp only; omega, hch, by simp only; omega, by simp only; omega⟩ dV
      unfold mE; rw [if_pos aO]
  · rintro j H' R' ⟨p, hsp, h11, h12, h13, h14, hH, hR, hpa, hph, hpe, hps⟩
    subst hH hR
    refine dD (by simp only [eF, List.foldl_cons, List.foldl_nil, List.set_cons_succ, List.set_cons_zero, h11, h12, h13, h14]; rfl) ?_
    have k2 := uP (r' := sO p sz data) (by rw [hsp]) k'
    clear k k' hsp hrs hhf
    repeat' (first | (apply aF) | (apply aA) | (apply bP) | (apply bF) | (apply aK; exact rfl) | (apply aJ; exact rfl) | (apply aH) | (apply aD) | (apply bN) | (apply aU; exact rfl; ((refine fD rfl rfl (fun h => ?_) (fun h => ?_))) <;> (refine aB ?_)) | (refine aE rfl rfl ?_; ((first | refine aG ?_ | refine aY ?_ | refine bX rfl eR ?_ | refine cH rfl eR ?_)); refine aB ?_) | (refine cX rfl ?_; refine aB ?_))
    · have k3 := uP (r' := ([], 2)) (by unfold sO; rw [if_pos (.inl aO)]) k2
      refine aZ (.inl rfl) (iN rfl (bR rfl) (bR rfl)) (cA H' (Sl (.slice none 0 0) ([] : List DO) :: R') (fun w hs => (hs.weaken eB hP).sl_nil DO) (k3 none 0))
    · have k3 := uP (r' := ([], 2)) (by unfold sO; rw [if_pos (.inr aO)]) k2
      refine aZ (.inl rfl) (iN rfl (bR rfl) (bR rfl)) (cA H' (Sl (.slice none 0 0) ([] : List DO) :: R') (fun w hs => (hs.weaken eB hP).sl_nil DO) (k3 none 0))
    refine dK rfl ?_; refine aT fA ?_; refine whole_k _ _ data p.epoch p.seq aO aO aO aX (fun v => ?_); refine aB ?_
    have hwl := pH p.epoch p.seq data
    obtain ⟨wB, hwB⟩ : ∃ wB, lW p.epoch p.seq data = wB := ⟨_, rfl⟩
    rw [hwB] at hwl ⊢
    have hpa2 : (p.half + 1) * sz ≤ 600000 := Nat.le_trans (Nat.mul_le_mul (show p.half + 1 ≤ 2 by omega) hsz3) aO
    have hp6 : 0 ≤ ((p.half : Int) + 1) * (sz : Int) ∧ ((p.half : Int) + 1) * (sz : Int) ≤ 600000 ∧ ((p.half : Int) + 1) * (sz : Int) = (((p.half + 1) * sz : Nat) : Int) := by
      have e : ((p.half : Int) + 1) * (sz : Int) = (((p.half + 1) * sz : Nat) : Int) := by push_cast; rfl
      rw [e]; omega
    refine T_unrow 0 rfl aO (fun b2 cap sp hv hl1 hl2 hl3 hl4 => ?_)
    subst hv
    refine cE ?_
    rw [Nat.mul_one] at hl1
    have hl5 : 1 + (cap - 1) ≤ (bC wB ++ sp).length := by omega
    refine aE rfl rfl ?_; refine jY rfl rfl rfl aO aO aO (fun o' ho' => ?_)
    obtain rfl : o' = 1 := by omega
    have e1 : (wB.length : Int).toNat - (1 : Int).toNat = (wB.drop 1).length := by simp
    have hdl1 : (wB.drop 1).length = 20 + data.length := by simp; omega
    rw [e1]
    refine aB ?_
    repeat' ((refine aE rfl rfl ?_; ((refine aY ?_)); refine aB ?_))
    apply aH; apply aD
    have hcs : ∀ k x, (wB.drop 1)[k]? = some x → (bC wB ++ sp)[1 + k]? = some (fH x) := fun k x hk => by
      have hk2 := (List.getElem?_eq_some_iff.1 hk).1
      rw [List.getElem?_append_left (by simp at hk2 ⊢; omega)]
      rw [List.getElem?_drop] at hk
      simp [bC, hk]
    have hc1 : (cap - (1 : Int).toNat) = cap - 1 := rfl
    rw [hc1]
    refine jJ [17, 84, 85, 86, 87, 88, 89, 90, 91, 92, 93, 94] (fun j H2 R2 => ∃ rest A c, j 17 = .slice A rest.length c ∧ rest = wB.drop 1 ++ (if p.at_ + (21 + data.length) < (p.half + 1) * sz then [0] else []) ∧ H2 = H' ∧ R2 = Sl (.slice A rest.length c) rest :: R') ?_ ?_
    · skip
      repeat' (first | (apply aF) | (apply aA) | (apply bF) | (apply aK; exact rfl) | (apply aJ; exact rfl) | (apply aH) | (apply aD) | (apply aU; exact rfl; ((first | refine bM rfl rfl aO aO ?_ | refine gR rfl rfl aO aO ?_)); refine aB ?_) | (apply aU; exact rfl; ((refine bQ rfl rfl (fun h => ?_) (fun h => ?_))) <;> (refine aB ?_)) | (refine aE rfl rfl ?_; ((refine aG ?_)); refine aB ?_) | (refine bJ rfl rfl ?_; ((refine bK cQ fP rfl (fun b => ?_))); refine aB ?_))
      · refine bJ rfl rfl ?_
        refine uL 1 0 (xs := wB.drop 1) (ys := [0]) rfl rfl rfl rfl hcs aO aO hl5 (by simp; omega) (by simp; omega) (fun A c' => ?_)
        refine aB ?_; refine cE ?_
        repeat' (first | (apply aH) | (refine aE rfl rfl ?_; ((refine aY ?_)); refine aB ?_))
        refine fQ H' _ eS ⟨wB.drop 1 ++ [0], A, c', rfl, by rw [if_pos aO], rfl, rfl⟩ dV
      · refine fQ H' _ eS ⟨wB.drop 1, some ⟨b2, 1, none⟩, cap - 1, rfl, by rw [if_neg aO, List.append_nil], rfl, rfl⟩ (fun w hs => ((hs.freeze (i := 0) rfl).add (Sl (.slice (some ⟨b2, 1, none⟩) (wB.drop 1).length (cap - 1)) (wB.drop 1)) (fun s hR => Sl_at (hR _ List.mem_cons_self) rfl aO (by simp only [maxLen] at hl4; simp only [eO]; omega) hcs)).weaken eB hP)
    rintro j2 H2 R2 ⟨rest, A5, c5, h17, hrest, hH, hR⟩
    subst hH hR
    refine dD (by simp only [eF, List.foldl_cons, List.foldl_nil, List.set_cons_succ, List.set_cons_zero, h17]; rfl) ?_
    have HRST := Go.Lib.hid hrest
    clear hrest hcs
    repeat' (first | (apply aF) | (apply aA) | (apply aH) | (apply aD) | (apply bE; exact rfl; ((refine aN (i := 0) rfl cW rfl dT dB eK ?_)); refine aB ?_; refine cE ?_) | (refine aE rfl rfl ?_; ((first | refine aY ?_ | refine dI gG ?_)); refine aB ?_) | (refine bJ rfl rfl ?_; ((refine bL cW (fun b => ?_))); refine aB ?_))
    refine eC fK jN (fun _ _ _ _ _ _ h => h) eB ?_
    all_goals ((refine bY 0 eB ?_; ((refine aG ?_)); refine aI ?_))
    all_goals ((refine bY 1 eB ?_; ((refine aG ?_)); refine aI ?_))
    all_goals ((refine bY 4 eB ?_; ((refine aL (i := 0) rfl rfl rfl ?_)); refine aI ?_))
    all_goals ((refine bY 5 eB ?_; ((refine aG ?_)); refine aI ?_))
    all_goals ((refine bY 6 eB ?_; ((refine aG ?_)); refine aI ?_))
    all_goals ((refine bY 7 eB ?_; ((refine bM rfl rfl aO aO ?_)); refine aI ?_))
    all_goals ((refine bY 8 eB ?_; ((refine aG ?_)); refine aI ?_))
    all_goals ((refine bY 10 eB ?_; ((refine aL (i := 0) rfl rfl rfl ?_)); refine aI ?_))
    all_goals ((refine bY 11 eB ?_; ((refine aG ?_)); refine aI ?_))
    all_goals ((refine bY 12 eB ?_; ((refine aG ?_)); refine aI ?_))
    all_goals ((refine bY 15 eB ?_; ((refine aL (i := 0) rfl rfl rfl ?_)); refine aI ?_))
    -- left: [2, 3, 9, 13, 14, 16, 17, 18]; ready: [2, 13]: ['buildSlice', 'buildSlice']
    refine cut2 (G := ?G) ?ha ?hb
    case ha =>
      intro hG
      refine pZ 2 13 ?_ ?_
      · skip
        refine GW.ow rfl ?_; refine bK cQ fP rfl (fun b98 => ?_)
        refine ⟨.inl dV, ?_⟩; refine aI ?_
        refine fN (fun w hs => hs.bytes_stay (i := 0) (xs := [0]) (n := 1) (c := 1) rfl rfl aO (by simp only [eO]; omega)) ?_
        refine kN ?_
        refine pZ 3 13 ?_ ?_
        · skip
          refine gO rfl fA ?_; refine kD _ _ _ _ ?_
          refine ⟨.inl dV, ?_⟩; refine aI ?_
          refine pZ 9 13 ?_ ?_
          · skip
            refine gO rfl fA ?_; refine kD _ _ _ _ ?_
            refine ⟨.inl dV, ?_⟩; refine aI ?_
            refine gE 13 ?_
            refine GW.ow rfl ?_; refine bK cQ fP rfl (fun b109 => ?_)
            refine ⟨.inl dV, ?_⟩; refine aI ?_
            refine fN (fun w hs => hs.bytes_stay (i := 0) (xs := [167]) (n := 1) (c := 1) rfl rfl aO (by simp only [eO]; omega)) ?_
            refine kN ?_
            refine fN (R' := Sl (.slice (some ⟨b98, 0, none⟩) 1 1) ([0] : List UInt8) :: Sl (.slice (some ⟨b109, 0, none⟩) 1 1) ([167] : List UInt8) :: Sl (.slice A5 rest.length c5) rest :: R') (fun w hs => hs.weaken (List.Sublist.refl _) hP) ?_
            exact hG b98 b109
          · skip
            refine GW.ow rfl ?_; refine bK cQ fP rfl (fun b109 => ?_)
            refine ⟨.inl dV, ?_⟩; refine aI ?_
            refine fN (fun w hs => hs.bytes_stay (i := 0) (xs := [167]) (n := 1) (c := 1) rfl rfl aO (by simp only [eO]; omega)) ?_
            refine kN ?_
            refine gE 9 ?_
            refine gO rfl fA ?_; refine kD _ _ _ _ ?_
            refine ⟨.inl dV, ?_⟩; refine aI ?_
            refine fN (R' := Sl (.slice (some ⟨b98, 0, none⟩) 1 1) ([0] : List UInt8) :: Sl (.slice (some ⟨b109, 0, none⟩) 1 1) ([167] : List UInt8) :: Sl (.slice A5 rest.length c5) rest :: R') (fun w hs => hs.weaken (List.Sublist.refl _) hP) ?_
            exact hG b98 b109
        · skip
          refine GW.ow rfl ?_; refine bK cQ fP rfl (fun b109 => ?_)
          refine ⟨.inl dV, ?_⟩; refine aI ?_
          refine fN (fun w hs => hs.bytes_stay (i := 0) (xs := [167]) (n := 1) (c := 1) rfl rfl aO (by simp only [eO]; omega)) ?_
          refine kN ?_
          refine gE 3 ?_
          refine gO rfl fA ?_; refine kD _ _ _ _ ?_
          refine ⟨.inl dV, ?_⟩; refine aI ?_
          refine gE 9 ?_
          refine gO rfl fA ?_; refine kD _ _ _ _ ?_
          refine ⟨.inl dV, ?_⟩; refine aI ?_
          refine fN (R' := Sl (.slice (some ⟨b98, 0, none⟩) 1 1) ([0] : List UInt8) :: Sl (.slice (some ⟨b109, 0, none⟩) 1 1) ([167] : List UInt8) :: Sl (.slice A5 rest.length c5) rest :: R') (fun w hs => hs.weaken (List.Sublist.refl _) hP) ?_
          exact hG b98 b109
      · skip
        refine GW.ow rfl ?_; refine bK cQ fP rfl (fun b109 => ?_)
        refine ⟨.inl dV, ?_⟩; refine aI ?_
        refine fN (fun w hs => hs.bytes_stay (i := 0) (xs := [167]) (n := 1) (c := 1) rfl rfl aO (by simp only [eO]; omega)) ?_
        refine kN ?_
        refine gE 2 ?_
        refine GW.ow rfl ?_; refine bK cQ fP rfl (fun b98 => ?_)
        refine ⟨.inl dV, ?_⟩; refine aI ?_
        refine fN (fun w hs => hs.bytes_stay (i := 0) (xs := [0]) (n := 1) (c := 1) rfl rfl aO (by simp only [eO]; omega)) ?_
        refine kN ?_
        refine gE 3 ?_
        refine gO rfl fA ?_; refine kD _ _ _ _ ?_
        refine ⟨.inl dV, ?_⟩; refine aI ?_
        refine gE 9 ?_
        refine gO rfl fA ?_; refine kD _ _ _ _ ?_
        refine ⟨.inl dV, ?_⟩; refine aI ?_
        refine fN (R' := Sl (.slice (some ⟨b98, 0, none⟩) 1 1) ([0] : List UInt8) :: Sl (.slice (some ⟨b109, 0, none⟩) 1 1) ([167] : List UInt8) :: Sl (.slice A5 rest.length c5) rest :: R') (fun w hs => hs.weaken (List.Sublist.refl _) hP) ?_
        exact hG b98 b109
    case hb =>
      intro b98 b109
      refine dW _ (List.Sublist.refl _) hP ?_
      refine gE 14 ?_
      refine gO rfl fA ?_; refine kD _ _ _ _ ?_
      refine ⟨.inl dV, ?_⟩; refine aI ?_
      refine mY 16 ?_
      refine bK cQ fP rfl (fun b112 => ?_)
      refine ⟨.inl (fun w hs => hs.weaken fE hP), ?_⟩; refine aI ?_
      all_goals ((refine bY 17 fE ?_; ((refine aY ?_)); refine aI ?_))
      all_goals ((refine bY 18 fE ?_; ((refine aY ?_)); refine aI ?_))
      all_goals refine iC ?_
      repeat' (first | (apply bP) | (apply aD))
      have k3 := uP (r' := ([⟨1, p.at_, [0]⟩, ⟨2, 0, []⟩, ⟨1, (p.at_ + 1 : Nat), rest⟩, ⟨2, 0, []⟩, ⟨1, p.at_, [167]⟩, ⟨2, 0, []⟩], 0)) (by unfold sO; rw [if_neg aO, HRST.out, hwB]) k2 (some ⟨b112, 0, none⟩) 6
      refine aZ (.inl rfl) (iN rfl (bR rfl) (bR rfl)) (cA H2 _ (fun w hs => ?_) k3)
      have hI : dO (p.at_ : Int) ∧ dO ((p.at_ + 1 : Nat) : Int) ∧ dO 1 ∧ dO 2 ∧ dO 0 := by simp only [dO]; omega
      have h2 := (hs.learn (Cx _ ([⟨1, p.at_, [0]⟩, ⟨2, 0, []⟩, ⟨1, (p.at_ + 1 : Nat), rest⟩, ⟨2, 0, []⟩, ⟨1, p.at_, [167]⟩, ⟨2, 0, []⟩] : List DO)) (fun s hR =>
        eZ (x := (⟨2, 0, []⟩ : DO)) (eZ (x := (⟨1, p.at_, [167]⟩ : DO)) (eZ (x := (⟨2, 0, []⟩ : DO)) (eZ (x := (⟨1, (p.at_ + 1 : Nat), rest⟩ : DO)) (eZ (x := (⟨2, 0, []⟩ : DO)) (Cx_one (x := (⟨1, p.at_, [0]⟩ : DO))
          ⟨some ⟨b98, 0, none⟩, 1, rfl, ⟨hI.2.2.1, hI.1⟩, hR (Sl (.slice (some ⟨b98, 0, none⟩) 1 1) ([0] : List UInt8)) aX⟩)
          ⟨none, 0, rfl, ⟨hI.2.2.2.1, hI.2.2.2.2⟩, kR UInt8 s⟩)
          ⟨A5, c5, rfl, ⟨hI.2.2.1, hI.2.1⟩, hR (Sl (.slice A5 rest.length c5) rest) aX⟩)
          ⟨none, 0, rfl, ⟨hI.2.2.2.1, hI.2.2.2.2⟩, kR UInt8 s⟩)
          ⟨some ⟨b109, 0, none⟩, 1, rfl, ⟨hI.2.2.1, hI.1⟩, hR (Sl (.slice (some ⟨b109, 0, none⟩) 1 1) ([167] : List UInt8)) aX⟩)
          ⟨none, 0, rfl, ⟨hI.2.2.2.1, hI.2.2.2.2⟩, kR UInt8 s⟩)).blk_stays (i := 0) (n := 6) (c := 6) (sp := []) rfl List.mem_cons_self rfl aO cQ
      exact h2.weaken eB (bT List.mem_cons_self (fun p hp => List.mem_cons_of_mem _ (List.mem_cons_of_mem _ (List.mem_cons_of_mem _ (List.mem_cons_of_mem _ (List.mem_cons_of_mem _ hp))))))
end Go.Proofs.YtggdljhmbckpmaaGreat
namespace Go.Proofs.YtggdljhmbckpmaaGreat
open Go Go.RowKit
set_option maxRecDepth 100000
set_option maxHeartbeats 1600000

theorem yP {K : Value → List Hp → List MP → Prop} {H : List Hp} {R : List MP} {n : Nat} {r : List UInt8 × Int} (xs : List UInt8) (e : Int) (hr : r = (xs, e)) (hn : xs.length = n) (k : ∀ A c, K (.tuple #[.slice A n c, .int .i64 e]) H (Sl (.slice A n c) xs :: R)) : KB K r H R := by subst hr; subst hn; exact k
theorem KR_lit {K : Value → List Hp → List MP → Prop} {H : List Hp} {R : List MP} {n : Nat} {r : List RecD × Int} (xs : List RecD) (e : Int) (hr : r = (xs, e)) (hn : xs.length = n) (k : ∀ A c, K (.tuple #[.slice A n c, .int .i64 e]) H (Sl (.slice A n c) xs :: R)) : KR K r H R := by subst hr; subst hn; exact k
theorem KO_lit {K : Value → List Hp → List MP → Prop} {H : List Hp} {R : List MP} {n : Nat} {r : List DO × Int} (xs : List DO) (e : Int) (hr : r = (xs, e)) (hn : xs.length = n) (k : ∀ A c, K (.tuple #[.slice A n c, .int .i64 e]) H (Sl (.slice A n c) xs :: R)) : KO K r H R := by subst hr; subst hn; exact k
theorem iW {K : Value → List Hp → List MP → Prop} {H : List Hp} {R : List MP} {r : Drive × Int} (d : Drive) (e : Int) (hr : r = (d, e)) (k : ∀ A c A2 c2, K (.tuple #[dv A c A2 c2 d, .int .i64 e]) H (jH A c A2 c2 d R)) : KD K r H R := by subst hr; exact k

def exD : Drive := ⟨[], []⟩
def exD0 : Drive := ⟨List.replicate 64 0, []⟩
def exR1 : List UInt8 := [1, 0, 0, 0, 0, 0, 0, 0, 1, 0, 0, 0, 149, 49, 220, 94, 7, 102, 88, 12, 2, 0]
def exR2 : List UInt8 := [2, 0, 0, 0, 0, 0, 0, 0, 3, 0, 0, 0, 228, 133, 208, 152, 1, 2, 3, 171, 55, 207, 86, 0]
def exO1 : List DO := [⟨1, 0, [0]⟩, ⟨2, 0, []⟩, ⟨1, 1, exR1⟩, ⟨2, 0, []⟩, ⟨1, 0, [167]⟩, ⟨2, 0, []⟩]
def exD1 : Drive := (doD exD0 exO1).1
def exO2 : List DO := [⟨1, 32, [0]⟩, ⟨2, 0, []⟩, ⟨1, 33, exR2⟩, ⟨2, 0, []⟩, ⟨1, 32, [167]⟩, ⟨2, 0, []⟩]
def exD2 : Drive := (doD exD1 (exO2.take 5)).1
def exX : Drive := (pV exD2 [0]).1
def exY : Drive := (pV exD2 [1]).1
theorem ex_new63 : newD 63 = (exD, 1) := by kernel_rfl
theorem ex_new64 : newD 64 = (exD0, 0) := by kernel_rfl
theorem ex_rec : qX exD0 = ([], 0) := by kernel_rfl
theorem ex_app1 : iG exD0 [7] = (exO1, 0) := by kernel_rfl
theorem ex_app2 : iG exD1 [1, 2, 3] = (exO2, 0) := by kernel_rfl
theorem kA : pV exD2 [0] = (exX, 0) := by kernel_rfl
theorem kB : pV exD2 [1] = (exY, 0) := by kernel_rfl
theorem ex_last0 : kX exX = ([7], 0) := by kernel_rfl
theorem ex_last1 : kX exY = ([1, 2, 3], 0) := by kernel_rfl
theorem ex_len0 : exD0.bytes.length = 64 ∧ exD0.pending.length = 0 := ⟨by kernel_rfl, by kernel_rfl⟩
theorem ex_len1 : exD1.bytes.length = 64 ∧ exD1.pending.length = 0 := ⟨by kernel_rfl, by kernel_rfl⟩
theorem ex_len2 : exD2.bytes.length = 64 ∧ exD2.pending.length = 1 := ⟨by kernel_rfl, by kernel_rfl⟩
theorem ex_lenX : exX.bytes.length = 64 ∧ exX.pending.length = 0 := ⟨by kernel_rfl, by kernel_rfl⟩
theorem ex_lenY : exY.bytes.length = 64 ∧ exY.pending.length = 0 := ⟨by kernel_rfl, by kernel_rfl⟩

/-- A drive alone is returned, for good. -/
def z9 (K : Value → List Hp → List MP → Prop) (d : Drive) (H : List Hp) (R : List MP) : Prop := ∀ A c A2 c2, K (dv A c A2 c2 d) H (jH A c A2 c2 d R)
theorem lL {w0 : World} {H : List Hp} {R : List MP} {K : Value → List Hp → List MP → Prop} (A0 : Option Addr) (c0 : Nat) (A2 : Option Addr) (c2 : Nat) (A3 : Option Addr) (m c3 : Nat) (d : Drive) (l : List DO) (hml : m = l.length) (hb : d.bytes.length ≤ 9223372036854775807) (hp : d.pending.length ≤ 9223372036854775807) (hll : l.length ≤ 9223372036854775807)
    (hm : Sl (.slice A0 d.bytes.length c0) d.bytes ∈ R) (hm2 : Sl (.slice A2 d.pending.length c2) d.pending ∈ R) (hm3 : Sl (.slice A3 m c3) l ∈ R)
    (k : z9 K (doD d l).1 H R) : CallsK Tryz.prog w0 26 #[dv A0 c0 A2 c2 d, .slice A3 m c3] H R K := by
  subst hml
  refine bV Tryz.func26 rfl Tryz.ntmps26 fI ?_
  repeat' (first | (refine dK rfl ?_; refine aT fA ?_; refine do_k _ _ _ _ _ _ d l hb hp hll hm hm2 hm3 (fun A c A2 c2 => ?_); refine aB ?_) | (apply aF) | (apply aA) | (apply bP) | (apply aH) | (apply aD) | (apply aP; exact rfl; ((first | refine aL (i := 0) rfl rfl rfl ?_ | refine aL (i := 1) rfl rfl rfl ?_)); refine aB ?_) | (apply bE; exact rfl; ((first | refine aN (i := 0) rfl cW rfl dT dB eK ?_ | refine aN (i := 1) rfl cW rfl dT dB eK ?_)); refine aB ?_; refine cE ?_) | (refine aE rfl rfl ?_; ((first | refine aG ?_ | refine aY ?_ | refine cD rfl rfl ?_)); refine aB ?_) | (refine bJ rfl rfl ?_; ((first | refine dX cW (fun b => ?_) | refine bL cW (fun b => ?_))); refine aB ?_))
  refine aZ (.inl rfl) (dP rfl (dC (i := 1) rfl rfl rfl)) (cA H _ r4 (k A c A2 c2))

section
variable {F : Fence} {n : Nat} {P : Program} {w0 : World} {D : List Deferred} {ops : Array Oper} {Q : Exit → Act → World → Prop} {rest : List Oper} {E : List Value} {H : List Hp} {R : List MP}
theorem wD (xs : List UInt8) {b : Nat} {cs : List Value} {T' : TypeId} (hc : cs = bC xs) (hl : xs.length ≤ 1000) (k : T F n P w0 D ops Q rest E H (Sl (.slice (some ⟨b, 0, none⟩) xs.length xs.length) xs :: R)) : T F n P w0 D ops Q rest E (.blk b cs T' :: H) R := eU _ _ (fun w hs => by
  subst hc
  exact hs.bytes_stay (i := 0) (xs := xs) (n := xs.length) (c := xs.length) rfl rfl (Nat.le_refl _) (by simp only [eO]; omega)) k
theorem S.ints_stay {w : World} (xs : List Int) {b : Nat} {cs : List Value} {T' : TypeId} (hc : cs = oA xs) (h : ∀ x ∈ xs, dO x) (hl : xs.length ≤ 1000) (hs : S w0 w (.blk b cs T' :: H) R) : S w0 w H (Sl (.slice (some ⟨b, 0, none⟩) xs.length xs.length) xs :: R) := by
  subst hc
  exact ((hs.learn (Cx (oA xs) xs) (fun s _ => zT xs h s)).blk_stays (i := 0) (b := b) (T := T') (cs := oA xs) (n := xs.length) (c := xs.length) (sp := []) dB List.mem_cons_self rfl (Nat.le_refl _) (by simp only [eO]; omega)).weaken (List.Sublist.refl _) (bT List.mem_cons_self (fun p hp => List.mem_cons_of_mem _ (List.mem_cons_of_mem _ hp)))
end
theorem cutD {G : Option Addr → Nat → Option Addr → Nat → Nat → Nat → Option Addr → Nat → Option Addr → Nat → Prop} {p : Prop} (h : (∀ a b c d e f g h i j, G a b c d e f g h i j) → p) (k : ∀ a b c d e f g h i j, G a b c d e f g h i j) : p := h k
end Go.Proofs.YtggdljhmbckpmaaGreat
