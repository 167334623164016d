/- The reference of records: Append: walk. ImageRecords: walk. -/
import Derived.Test.YtggdljhmbckpmaaGreatZCJ
import Derived.Test.YtggdljhmbckpmaaGreatG2
import Derived.Test.YtggdljhmbckpmaaGreatW5J
import Derived.Test.YtggdljhmbckpmaaGreatZGJ
set_option linter.unusedVariables false
set_option linter.unusedSimpArgs false
namespace Go.Proofs.YtggdljhmbckpmaaGreat
open Go Go.RowKit
set_option maxRecDepth 100000
set_option maxHeartbeats 3200000

def KOA (K : Value → List Hp → List MP → Prop) (r : List DO × Int) (H : List Hp) (R : List MP) : Prop := ∀ A c, K (.agg #[.slice A r.1.length c, .int .i64 r.2]) H (Sl (.slice A r.1.length c) r.1 :: R)
theorem qA {K : Value → List Hp → List MP → Prop} {r r' : List DO × Int} {H : List Hp} {R : List MP} (e : r = r') (h : KOA K r H R) : KOA K r' H R := e ▸ h
theorem qY {w0 : World} {H : List Hp} {R : List MP} {K : Value → List Hp → List MP → Prop} (n : Nat) (hn : n < 4294967296) (x : List UInt8) (hx : lZ n = x)
    (k : ∀ v, K v (.row v 5 1 4 (bC x) :: H) R) : CallsK Tryz.prog w0 62 #[.int .u32 n] H R K := by
  subst hx; exact rfour_k n hn k
theorem yU (e s : Nat) (data : List UInt8) : (lW e s data).drop 1 = (lZ e ++ lZ s ++ lZ data.length) ++ lZ (jU (lZ e ++ lZ s ++ lZ data.length)) ++ data ++ lZ (jU data) := rfl
theorem w7 {w0 : World} {H : List Hp} {R : List MP} {K : Value → List Hp → List MP → Prop} (A0 : Option Addr) (c0 : Nat) (A2 : Option Addr) (c2 : Nat) (A3 : Option Addr) (c3 : Nat) (d : Drive) (data : List UInt8) (hb : d.bytes.length ≤ 9223372036854775807) (hp : d.pending.length ≤ 9223372036854775807) (hdl : data.length ≤ 9223372036854770000)
    (hm : Sl (.slice A0 d.bytes.length c0) d.bytes ∈ R) (hm2 : Sl (.slice A2 d.pending.length c2) d.pending ∈ R) (hm3 : Sl (.slice A3 data.length c3) data ∈ R)
    (k : KOA K (iG d data) H R) : CallsK Tryz.prog w0 14 #[dv A0 c0 A2 c2 d, .slice A3 data.length c3] H R K := by
  obtain ⟨l, half, hcur⟩ : ∃ l half, jA (gW d) = (l, half) := ⟨_, _, rfl⟩
  obtain ⟨sz, hsz⟩ : ∃ sz, d.bytes.length / 2 = sz := ⟨_, rfl⟩
  have hszi : (d.bytes.length : Int) / 2 = (sz : Int) := by omega
  refine bV Tryz.func14 rfl Tryz.ntmps14 fI ?_
  repeat' (first | (refine dK rfl ?_; refine aT fA ?_; refine vG _ _ _ _ d hb hp hm hm2 (fun hc hcl6 => ?_) (fun hc => ?_) <;> refine aB ?_) | ((with_reducible rw [hszi])) | (apply aF) | (apply aA) | (apply bP) | (apply bF) | (apply aK; exact rfl) | (apply aJ; exact rfl) | (apply aH) | (apply aD) | (apply bN) | (apply aP; exact rfl; ((refine aL (i := 1) rfl rfl rfl ?_)); refine aB ?_) | (apply aU; exact rfl; ((first | refine bM rfl rfl aO aO ?_ | refine kT rfl rfl aO aO aO ?_)); refine aB ?_) | (apply aU; exact rfl; ((first | refine fD rfl rfl (fun h => ?_) (fun h => ?_) | refine eD rfl rfl (fun h => ?_) (fun h => ?_))) <;> (first | (exfalso; omega) | refine aB ?_)) | (apply bE; exact rfl; ((refine aN (i := 0) rfl cW rfl dT dB eK ?_)); refine aB ?_; refine cE ?_) | (refine aE rfl rfl ?_; ((first | refine aG ?_ | refine aY ?_ | refine aC rfl ?_ | refine bS rfl ?_ | refine dI gG ?_)); refine aB ?_) | (refine bJ rfl rfl ?_; ((first | refine dX cW (fun b => ?_) | refine bL cW (fun b => ?_))); refine aB ?_))
  · have k' := qA (r' := ([], 303)) (by unfold iG; rw [if_pos hc, if_pos (by rw [fM hc]; omega)]) k none 0
    exact aZ (.inl rfl) (dP rfl (dC (i := 0) rfl rfl rfl)) (cA H (Sl (.slice none 0 0) ([] : List DO) :: R) (fun w hs => (hs.weaken eB (fun _ h => h)).sl_nil DO) k')
  · rename_i bd h0
    have hlB := fM hc
    obtain ⟨c1, c2', c3', c4, c5⟩ := fX hc
    have hB2 : (gW d).length = 2 * sz := by omega
    have hsz3 : sz ≤ 300000 := by omega
    have hch : half ≤ 1 := (rS hcur).1
    have k' := qA (r' := sO (mE l half sz (21 + data.length)) sz data) (by unfold iG; rw [if_pos hc, hlB, hsz, if_neg aO, hcur]) k
    clear k
    have SR := fun h => spot_ref (21 + data.length) hB2 hsz3 hcur h
    have hl6 : l.length ≤ 600000 := by have := mP hcl6; rw [hcur] at this; exact this
    obtain ⟨ep, hep⟩ : ∃ ep, uJ l = ep := ⟨_, rfl⟩
    obtain ⟨en, hen⟩ : ∃ en, jK (half * (gW d).length / 2) l = en := ⟨_, rfl⟩
    have h01 : half = 0 ∨ half = 1 := by omega
    have hp1 : 0 ≤ ((half : Int) + 1) * (sz : Int) ∧ ((half : Int) + 1) * (sz : Int) ≤ 600000 := by
      rcases h01 with e | e <;> rw [e] <;> simp <;> omega
    have hp2 : 0 ≤ (1 - (half : Int)) * (sz : Int) ∧ (1 - (half : Int)) * (sz : Int) ≤ 600000 := by
      rcases h01 with e | e <;> rw [e] <;> simp <;> omega
    have hp4 : (1 - (half : Int)) * (sz : Int) = (((1 - half) * sz : Nat) : Int) ∧ (1 - (half : Int)) = ((1 - half : Nat) : Int) := by
      rcases h01 with e | e <;> rw [e] <;> simp
    have hp5 : sz ≤ (half + 1) * sz ∧ (1 - half + 1) * sz = (1 - half) * sz + sz :=
      ⟨Nat.le_mul_of_pos_left _ aO, by rw [Nat.add_mul, Nat.one_mul]⟩
    have hp3 : ((half : Int) + 1) * (sz : Int) = (((half + 1) * sz : Nat) : Int) := by push_cast; rfl
    repeat' (first | (refine dK rfl ?_; refine aT fA ?_; refine rhas_k _ _ _ _ d hc hm hm2 (fun v => ?_); refine aB ?_; refine hZ 0 rfl (fun A' c' hv => ?_); subst hv; refine cE ?_) | (refine dK rfl ?_; refine aT fA ?_; refine tY _ _ (gW d) hcl6 aX l half hcur (fun A4 c4 => ?_); rw [hep, hen]; refine aB ?_) | (refine bJ rfl rfl ?_; refine bL cW (fun b8 => ?_); refine aB ?_) | (refine jJ (x := .seq (.region 11 _ _) _) [8, 9, 10, 11, 47, 48, 49, 50, 51, 52, 53, 54, 55, 56, 57, 58, 59, 60, 61, 62, 63, 64, 65] (fun j H' R' => ∃ p : Spot, mE l half sz (21 + data.length) = p ∧ j 8 = .int .i64 (p.half : Int) ∧ j 9 = .int .i64 (p.at_ : Int) ∧ j 10 = .int .i64 (p.epoch : Int) ∧ j 11 = .int .i64 (p.seq : Int) ∧ H' = .blk b [.slice none 0 0, .int .i64 0] 56 :: H ∧ R' = R ∧ p.at_ + 21 + data.length ≤ (p.half + 1) * sz ∧ p.half ≤ 1 ∧ p.epoch ≤ 4294967296 ∧ p.seq ≤ 4294967296) ?_ ?_) | (apply aF) | (apply aA) | (apply aK; exact rfl) | (apply aJ; exact rfl) | (apply aH) | (apply aD) | (apply aP; exact rfl; ((refine aL (i := 0) rfl rfl rfl ?_)); refine aB ?_) | (apply aU; exact rfl; ((refine fZ rfl rfl (fun h => ?_) (fun h => ?_))) <;> (refine aB ?_)) | (apply bE; exact rfl; ((refine aN (i := 0) rfl cW rfl dT dB eK ?_)); refine aB ?_; refine cE ?_) | (refine aE rfl rfl ?_; ((first | refine aG ?_ | refine aY ?_ | refine aC rfl ?_ | refine bS rfl ?_ | refine cD rfl rfl ?_)); refine aB ?_))
    · have hl0 : l.length = 0 := by omega
      have e0 : (l.length : Int) = ((0 : Nat) : Int) := by omega
      refine fQ (.blk b [.slice none 0 0, .int .i64 0] 56 :: H) R eS ⟨⟨0, 1, 0, half⟩, by unfold mE; rw [if_pos hl0], rfl, rfl, rfl, congrArg (Value.int .i64) e0, rfl, rfl, by simp only; omega, hch, by simp only; omega, by simp only; omega⟩ (fun w hs => hs.weaken (List.Sublist.cons _ (List.Sublist.cons_cons _ fE)) hP)
    · obtain ⟨e, a, q1, q2, q3, q4, q5, q6, q7⟩ := SR aO
      obtain rfl : ep = (e : Int) := hep.symm.trans q1
      obtain rfl : en = a := hen.symm.trans q2
      have HS6 := Go.Lib.hid q6
      have HS7 := Go.Lib.hid q7
      clear q6 q7 q1 q2 SR hep hen k'
      repeat' (first | (apply aF) | (apply aA) | (apply bF) | (apply aK; exact rfl) | (apply aJ; exact rfl) | (apply aH) | (apply aD) | (apply aU; exact rfl; ((first | refine bM rfl rfl aO aO ?_ | refine eY rfl rfl aO aO ?_ | refine gR rfl rfl aO aO ?_)); refine aB ?_) | (apply aU; exact rfl; ((refine fD rfl rfl (fun h => ?_) (fun h => ?_))) <;> (refine aB ?_)) | (refine aE rfl rfl ?_; ((first | refine aG ?_ | refine aY ?_ | refine bS rfl ?_)); refine aB ?_))
      · refine fQ (.blk b [.slice none 0 0, .int .i64 0] 56 :: H) R eS ⟨⟨(1 - half) * sz, e + 1, 0, 1 - half⟩, HS6.out aO, congrArg (Value.int .i64) hp4.2, congrArg (Value.int .i64) hp4.1, by rw [Int.natCast_succ]; rfl, rfl, rfl, rfl, by simp only; omega, by simp only; omega, by simp only; omega, by simp only; omega⟩ (fun w hs => hs.weaken (List.Sublist.cons _ (List.Sublist.cons_cons _ fE)) hP)
      · refine fQ (.blk b [.slice none 0 0, .int .i64 0] 56 :: H) R eS ⟨⟨en, e, l.length, half⟩, HS7.out aO, rfl, rfl, rfl, rfl, rfl, rfl, by simp only; omega, hch, by simp only; omega, by simp only; omega⟩ (fun w hs => hs.weaken (List.Sublist.cons _ (List.Sublist.cons_cons _ fE)) hP)
    · rintro j H' R' ⟨p, hsp, h11, h12, h13, h14, hH, hR, hpa, hph, hpe, hps⟩
      subst hH hR
      refine dD (by simp only [eF, List.foldl_cons, List.foldl_nil, List.set_cons_succ, List.set_cons_zero, h11, h12, h13, h14]; rfl) ?_
      have k2 := qA (r' := sO p sz data) (by rw [hsp]) k'
      clear k' hsp SR hep hen hp1 hp2 hp3 hp4 hp5 h01 hch
      have hpa2 : (p.half + 1) * sz ≤ 600000 := Nat.le_trans (Nat.mul_le_mul (show p.half + 1 ≤ 2 by omega) hsz3) aO
      have hp6 : 0 ≤ ((p.half : Int) + 1) * (sz : Int) ∧ ((p.half : Int) + 1) * (sz : Int) ≤ 600000 ∧ ((p.half : Int) + 1) * (sz : Int) = (((p.half + 1) * sz : Nat) : Int) := by
        have e : ((p.half : Int) + 1) * (sz : Int) = (((p.half + 1) * sz : Nat) : Int) := by push_cast; rfl
        rw [e]; omega
      obtain ⟨x1, hx1, n1⟩ : ∃ x, lZ p.epoch = x ∧ x.length = 4 := ⟨_, rfl, rfl⟩
      obtain ⟨x2, hx2, n2⟩ : ∃ x, lZ p.seq = x ∧ x.length = 4 := ⟨_, rfl, rfl⟩
      obtain ⟨x3, hx3, n3⟩ : ∃ x, lZ data.length = x ∧ x.length = 4 := ⟨_, rfl, rfl⟩
      obtain ⟨HB, hHB⟩ : ∃ HB, x1 ++ x2 ++ x3 = HB := ⟨_, rfl⟩
      obtain ⟨x4, hx4, n4⟩ : ∃ x, lZ (jU HB) = x ∧ x.length = 4 := ⟨_, rfl, rfl⟩
      obtain ⟨x5, hx5, n5⟩ : ∃ x, lZ (jU data) = x ∧ x.length = 4 := ⟨_, rfl, rfl⟩
      obtain ⟨W, hW⟩ : ∃ W, HB ++ x4 ++ data ++ x5 = W := ⟨_, rfl⟩
      have nH : HB.length = 12 := by rw [← hHB]; simp [n1, n2, n3]
      have nW : W.length = 20 + data.length := by rw [← hW]; simp [nH, n4, n5]; omega
      have hWd : (lW p.epoch p.seq data).drop 1 = W := by rw [yU, hx1, hx2, hx3, hHB, hx4, hx5, hW]
      have bH : bC x1 ++ bC x2 ++ bC x3 = bC HB := by rw [← hHB, eX, eX]
      have bW : bC HB ++ bC x4 ++ bC data ++ bC x5 = bC W := by rw [← hW, eX, eX, eX]
      have bW0 : bC HB ++ bC x4 ++ bC data ++ bC x5 ++ bC [0] = bC (W ++ [0]) := by rw [bW, eX]
      have hs1 := sU HB
      have hs2 := sU data
      clear hcur c5 hm hm2
      repeat' (first | (refine aE rfl rfl ?_; refine uT rfl aO ?_; refine aB ?_) | (refine dK rfl ?_; refine aT fA ?_; refine qY p.epoch aO x1 hx1 (fun v => ?_); refine aB ?_) | (refine dK rfl ?_; refine aT fA ?_; refine qY p.seq aO x2 hx2 (fun v => ?_); refine aB ?_; refine hZ (xs := x2) 0 rfl (fun A5 c5 hv => ?_); subst hv; refine cE ?_) | (refine dK rfl ?_; refine aT fA ?_; refine qY data.length aO x3 hx3 (fun v => ?_); refine aB ?_; refine hZ (xs := x3) 0 rfl (fun A5 c5 hv => ?_); subst hv; refine cE ?_) | (refine bJ rfl rfl ?_; refine gK (xs := x2) 0 rfl rfl aX rfl rfl aO aO (fun v => ?_); refine aB ?_; refine cE ?_) | (refine bJ rfl rfl ?_; refine gK (xs := x3) 0 rfl rfl aX rfl rfl aO aO (fun v => ?_); refine aB ?_; refine hZ (xs := HB) 0 (congrArg (fun c => some (Hp.row _ 5 1 _ c)) bH) (fun A6 c6 hv => ?_); subst hv; refine cE ?_) | (refine bJ rfl rfl ?_; refine rH rfl cQ (fun bz => ?_); refine aB ?_) | (refine bJ rfl rfl ?_; refine gK (xs := HB) 0 rfl rfl aX rfl rfl aO aO (fun v => ?_); refine aB ?_; refine cE ?_) | (refine dK rfl ?_; refine aT fA ?_; refine vO _ _ _ HB rfl aO aX ?_; refine aB ?_) | (refine dK rfl ?_; refine aT fA ?_; refine qY (jU HB) aO x4 hx4 (fun v => ?_); refine aB ?_; refine hZ (xs := x4) 0 rfl (fun A5 c5 hv => ?_); subst hv; refine cE ?_) | (refine bJ rfl rfl ?_; refine gK (xs := x4) 0 rfl rfl aX rfl rfl aO aO (fun v => ?_); refine aB ?_; refine cE ?_) | (refine bJ rfl rfl ?_; refine gK (xs := data) 0 rfl rfl aX rfl rfl aO aO (fun v => ?_); refine aB ?_; refine cE ?_) | (refine dK rfl ?_; refine aT fA ?_; refine vO _ _ _ data rfl aO aX ?_; refine aB ?_) | (refine dK rfl ?_; refine aT fA ?_; refine qY (jU data) aO x5 hx5 (fun v => ?_); refine aB ?_; refine hZ (xs := x5) 0 rfl (fun A5 c5 hv => ?_); subst hv; refine cE ?_) | (refine bJ rfl rfl ?_; refine gK (xs := x5) 0 rfl rfl aX rfl rfl aO aO (fun v => ?_); refine aB ?_; refine cE ?_) | (refine jJ (x := .seq (.region 24 _ _) _) [13, 99, 100, 101, 102, 103, 104, 105, 106, 107, 108, 109, 110, 111] (fun j H' R'' => ∃ rest A c, j 13 = .slice A rest.length c ∧ rest = W ++ (if p.at_ + (21 + data.length) < (p.half + 1) * sz then [0] else []) ∧ .blk b [.slice none 0 0, .int .i64 0] 56 :: H = H' ∧ Sl (.slice A rest.length c) rest :: R' = R'') ?_ ?_) | (refine bJ rfl rfl ?_; refine dF 1 0 rfl rfl rfl rfl cQ rfl eK aO aO (fun v => ?_); refine aB ?_; refine hZ (xs := W ++ [0]) 1 (congrArg (fun c => some (Hp.row _ 5 1 _ c)) bW0) (fun A7 c7 hv => ?_); subst hv; refine cE ?_) | (apply aF) | (apply aA) | (apply bP) | (apply bF) | (apply aK; exact rfl) | (apply aJ; exact rfl) | (apply aH) | (apply aD) | (apply bN) | (apply aU; exact rfl; ((first | refine bM rfl rfl aO aO ?_ | refine gR rfl rfl aO aO ?_)); refine aB ?_) | (apply aU; exact rfl; ((first | refine bQ rfl rfl (fun h => ?_) (fun h => ?_) | refine fD rfl rfl (fun h => ?_) (fun h => ?_))) <;> (refine aB ?_)) | (apply bE; exact rfl; ((refine aN (i := 0) rfl cW rfl dT dB eK ?_)); refine aB ?_; refine cE ?_) | (refine aE rfl rfl ?_; ((first | refine aG ?_ | refine aY ?_ | refine bX rfl eR ?_ | refine cH rfl eR ?_ | refine bS rfl ?_ | refine dI gG ?_)); refine aB ?_) | (refine cX rfl ?_; refine aB ?_) | (refine bJ rfl rfl ?_; ((refine bK cQ fP rfl (fun b => ?_))); refine aB ?_))
      · have k3 := qA (r' := ([], 2)) (by unfold sO; rw [if_pos (.inl aO)]) k2 none 0
        exact aZ (.inl rfl) (dP rfl (dC (i := 0) rfl rfl rfl)) (cA H (Sl (.slice none 0 0) ([] : List DO) :: R') (fun w hs => (hs.weaken eB hP).sl_nil DO) k3)
      · have k3 := qA (r' := ([], 2)) (by unfold sO; rw [if_pos (.inr aO)]) k2 none 0
        exact aZ (.inl rfl) (dP rfl (dC (i := 0) rfl rfl rfl)) (cA H (Sl (.slice none 0 0) ([] : List DO) :: R') (fun w hs => (hs.weaken eB hP).sl_nil DO) k3)
      · refine fQ _ _ eS ⟨W ++ [0], A7, c7, rfl, by rw [if_pos aO], rfl, rfl⟩ (fun w hs => hs.weaken fE hP)
      · refine En_stays (xs := W) 0 (congrArg (fun c => some (Hp.row _ 5 1 _ c)) bW) (fun A7 c7 hv => ?_)
        subst hv
        refine fQ _ _ eS ⟨W, A7, c7, rfl, by rw [if_neg aO, List.append_nil], rfl, rfl⟩ (fun w hs => hs.weaken (List.Sublist.refl _) hP)
      · rintro j2 H2 R2 ⟨rest, A7, c7, h13', hrest, hH, hR⟩
        subst hH hR
        refine dD (by simp only [eF, List.foldl_cons, List.foldl_nil, List.set_cons_succ, List.set_cons_zero, h13']; rfl) ?_
        have HRST := Go.Lib.hid hrest
        clear hrest bH bW bW0
        repeat' (first | (refine bJ rfl rfl ?_; refine bK cQ fP rfl (fun z0 => ?_); refine aB ?_; refine eU _ _ (fun w hs => hs.bytes_stay (i := 0) (xs := [0]) (n := 1) (c := 1) rfl rfl aO (by simp only [eO]; omega)) ?_; refine cE ?_) | (refine bJ rfl rfl ?_; refine bK cQ fP rfl (fun z1 => ?_); refine aB ?_; refine eU _ _ (fun w hs => hs.bytes_stay (i := 0) (xs := [167]) (n := 1) (c := 1) rfl rfl aO (by simp only [eO]; omega)) ?_; refine cE ?_) | (apply aF) | (apply aA) | (apply aH) | (apply aD) | (apply aP; exact rfl; ((first | refine aL (i := 0) rfl rfl rfl ?_ | refine aL (i := 1) rfl rfl rfl ?_ | refine aL (i := 2) rfl rfl rfl ?_ | refine aL (i := 3) rfl rfl rfl ?_)); refine aB ?_) | (apply aU; exact rfl; ((refine bM rfl rfl aO aO ?_)); refine aB ?_) | (apply bE; exact rfl; ((refine aN (i := 0) rfl cW rfl dT dB eK ?_)); refine aB ?_; refine cE ?_) | (refine aE rfl rfl ?_; ((first | refine aG ?_ | refine dI gG ?_)); refine aB ?_) | (refine bJ rfl rfl ?_; ((refine bL cW (fun b => ?_))); refine aB ?_))
        refine bJ rfl rfl ?_
        refine bK cQ (by refine qP ?_; repeat' (first | refine sF cW dT (by simp only [List.drop_zero, List.take_succ_cons, List.take_zero, List.cons_append, List.nil_append]; rfl) ?_ | exact tL)) rfl (fun z6 => ?_)
        refine aB ?_
        repeat' (first | (apply bP) | (apply aH) | (apply aD) | (apply bE; exact rfl; ((refine aN (i := 5) rfl cW rfl dT dB eK ?_)); refine aB ?_; refine cE ?_) | (refine aE rfl rfl ?_; ((refine dI gG ?_)); refine aB ?_))
        have k3 := qA (r' := ([⟨1, p.at_, [0]⟩, ⟨2, 0, []⟩, ⟨1, (p.at_ + 1 : Nat), rest⟩, ⟨2, 0, []⟩, ⟨1, p.at_, [167]⟩, ⟨2, 0, []⟩], 0)) (by unfold sO; rw [if_neg aO, HRST.out, hWd]) k2 (some ⟨z6, 0, none⟩) 6
        refine aZ (.inl rfl) (dP rfl (dC (i := 5) rfl rfl rfl)) (cA H _ (fun w hs => ?_) k3)
        have hI : dO (p.at_ : Int) ∧ dO ((p.at_ + 1 : Nat) : Int) ∧ dO 1 ∧ dO 2 ∧ dO 0 := by simp only [dO]; omega
        have h2 := (hs.learn (Cx _ ([⟨1, p.at_, [0]⟩, ⟨2, 0, []⟩, ⟨1, (p.at_ + 1 : Nat), rest⟩, ⟨2, 0, []⟩, ⟨1, p.at_, [167]⟩, ⟨2, 0, []⟩] : List DO)) (fun s hR =>
          eZ (x := (⟨2, 0, []⟩ : DO)) (eZ (x := (⟨1, p.at_, [167]⟩ : DO)) (eZ (x := (⟨2, 0, []⟩ : DO)) (eZ (x := (⟨1, (p.at_ + 1 : Nat), rest⟩ : DO)) (eZ (x := (⟨2, 0, []⟩ : DO)) (Cx_one (x := (⟨1, p.at_, [0]⟩ : DO))
            ⟨some ⟨z0, 0, none⟩, 1, rfl, ⟨hI.2.2.1, hI.1⟩, hR (Sl (.slice (some ⟨z0, 0, none⟩) 1 1) ([0] : List UInt8)) aX⟩)
            ⟨none, 0, rfl, ⟨hI.2.2.2.1, hI.2.2.2.2⟩, kR UInt8 s⟩)
            ⟨A7, c7, rfl, ⟨hI.2.2.1, hI.2.1⟩, hR (Sl (.slice A7 rest.length c7) rest) aX⟩)
            ⟨none, 0, rfl, ⟨hI.2.2.2.1, hI.2.2.2.2⟩, kR UInt8 s⟩)
            ⟨some ⟨z1, 0, none⟩, 1, rfl, ⟨hI.2.2.1, hI.1⟩, hR (Sl (.slice (some ⟨z1, 0, none⟩) 1 1) ([167] : List UInt8)) aX⟩)
            ⟨none, 0, rfl, ⟨hI.2.2.2.1, hI.2.2.2.2⟩, kR UInt8 s⟩)).blk_stays (i := 0) (n := 6) (c := 6) (sp := []) rfl List.mem_cons_self rfl aO cQ
        exact h2.weaken eB (bT List.mem_cons_self (fun p hp => List.mem_cons_of_mem _ (List.mem_cons_of_mem _ (List.mem_cons_of_mem _ (List.mem_cons_of_mem _ (List.mem_cons_of_mem _ hp))))))
  · refine aZ (.inl rfl) (dP rfl (dC (i := 0) rfl rfl rfl)) (cA H (Sl (.slice none 0 0) ([] : List DO) :: R) (fun w hs => (hs.weaken eB (fun _ h => h)).sl_nil DO) ?_)
    exact qA (r' := ([], 301)) (by unfold iG; rw [hc]; rfl) k none 0
end Go.Proofs.YtggdljhmbckpmaaGreat
namespace Go.Proofs.YtggdljhmbckpmaaGreat
open Go Go.RowKit
set_option maxRecDepth 100000
set_option maxHeartbeats 8000000

theorem i9 {K : Value → List Hp → List MP → Prop} {r : List DO × Int} {H : List Hp} {R : List MP} (xs : List DO) (e : Int) (hr : r = (xs, e)) (h : ∀ A c, K (.agg #[.slice A xs.length c, .int .i64 e]) H (Sl (.slice A xs.length c) xs :: R)) : KOA K r H R := by
  subst hr; exact h
theorem zK {K : Value → List Hp → List MP → Prop} {r : List DO × Int} {H : List Hp} {R : List MP} (xs : List DO) (e : Int) (hr : r = (xs, e)) (h : ∀ A c, K (.tuple #[.slice A xs.length c, .int .i64 e]) H (Sl (.slice A xs.length c) xs :: R)) : KO K r H R := by
  subst hr; exact h
theorem f6 {K : Value → List Hp → List MP → Prop} {r : List UInt8 × Int} {H : List Hp} {R : List MP} (xs : List UInt8) (e : Int) (hr : r = (xs, e)) (h : ∀ A c, K (.agg #[.slice A xs.length c, .int .i64 e]) H (Sl (.slice A xs.length c) xs :: R)) : KC K r H R := by
  subst hr; exact h
theorem zU {K : Value → List Hp → List MP → Prop} {r : List UInt8 × Int} {H : List Hp} {R : List MP} (xs : List UInt8) (e : Int) (hr : r = (xs, e)) (h : ∀ A c, K (.tuple #[.slice A xs.length c, .int .i64 e]) H (Sl (.slice A xs.length c) xs :: R)) : KB K r H R := by
  subst hr; exact h
theorem wU (d : Drive) (data : List UInt8) : (iG d data).1.length ≤ 6 := by
  unfold iG sO
  split
  · split
    · simp
    · split <;> simp
  · simp
end Go.Proofs.YtggdljhmbckpmaaGreat
