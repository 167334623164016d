/- ImageSaves: walk. Reading the arguments of a row: what lies in the given memory, as data. Rows: how long a slice that is handed in may be. -/
import Derived.Test.YtggdljhmbckpmaaGreatW5J
import Derived.Test.YtggdljhmbckpmaaGreatZHJ
import Derived.Test.YtggdljhmbckpmaaGreatA7J
import Derived.Test.YtggdljhmbckpmaaGreatA7f1J
import Derived.Test.YtggdljhmbckpmaaGreatF2J
import Derived.Test.YtggdljhmbckpmaaGreatF3J
import Derived.ChangeArms
import Derived.SizedLaws
import Derived.OpenShut
set_option linter.unusedVariables false
set_option linter.unusedSimpArgs false
namespace Go.Proofs.YtggdljhmbckpmaaGreat
open Go Go.RowKit
set_option maxRecDepth 100000
set_option maxHeartbeats 4000000

def kZ (d : Drive) (m : jO) : List DO × Int := if eW d then (if (uH m).2 = 0 then iG d (uH m).1 else ([], (uH m).2)) else ([], 301)
def nY (d : Drive) : jO × Int := if (kX d).2 = 0 then ((nN (kX d).1).1, (nN (kX d).1).2.2) else (maZ, (kX d).2)
theorem w9 (d : Drive) (m : jO) : (kZ d m).1.length ≤ 6 := by
  unfold kZ
  split
  · split
    · exact wU _ _
    · simp
  · simp
theorem xR {m : jO} {bs : List UInt8} {e : Int} (h : uH m = (bs, e)) : bs.length ≤ 250000 := by
  rw [encM_eq] at h
  split at h
  · injection h with h _
    rw [← h]; assumption
  · injection h with h _
    rw [← h]; simp
theorem vE (d : Drive) : (kX d).1.length ≤ 600000 := by
  unfold kX
  split
  · rename_i hc
    have hl := fM hc
    obtain ⟨_, h6, he, _⟩ := fX hc
    obtain ⟨⟨l, half⟩, hcur⟩ : ∃ r, jA (gW d) = r := ⟨_, rfl⟩
    rw [hcur]
    simp only
    split
    · simp
    · rename_i hne
      have e : l.getD (l.length - 1) Rc.zero = l[l.length - 1]'aO := by simp [List.getD, show l.length - 1 < l.length by omega]
      obtain ⟨_, _, _, _, h1, h2, _⟩ := vN (size := (gW d).length / 2) aO aO hcur _ _ (List.getElem?_eq_getElem (show l.length - 1 < l.length by omega))
      rw [e]
      show (l[l.length - 1]'aO).data.length ≤ 600000
      omega
  · simp
def KL (K : Value → List Hp → List MP → Prop) (r : jO × Int) (H : List Hp) (R : List MP) : Prop := ∀ y, Unp.ok r.1 y → K (.tuple #[.agg (Unp.cs r.1 y).toArray, .int .i64 r.2]) H (Unp.fs r.1 y ++ R)
theorem KL_eq {K : Value → List Hp → List MP → Prop} {r r' : jO × Int} {H : List Hp} {R : List MP} (e : r = r') (h : KL K r H R) : KL K r' H R := e ▸ h
def KLr (K : Value → List Hp → List MP → Prop) (r : jO × Int) (H : List Hp) (R : List MP) : Prop := ∀ y, Unp.ok r.1 y → K (.agg (Unp.cs r.1 y ++ [Value.int .i64 0, Value.int .i64 r.2]).toArray) H (Unp.fs r.1 y ++ R)
theorem KLr_eq {K : Value → List Hp → List MP → Prop} {r r' : jO × Int} {H : List Hp} {R : List MP} (e : r = r') (h : KLr K r H R) : KLr K r' H R := e ▸ h
section
variable {w0 : World} {H : List Hp} {R : List MP} {K : Value → List Hp → List MP → Prop} (A0 : Option Addr) (c0 : Nat) (A2 : Option Addr) (c2 : Nat) (d : Drive) (hb : d.bytes.length ≤ 9223372036854775807) (hp : d.pending.length ≤ 9223372036854775807)
  (hm : Sl (.slice A0 d.bytes.length c0) d.bytes ∈ R) (hm2 : Sl (.slice A2 d.pending.length c2) d.pending ∈ R)
include hb hp hm hm2
theorem save_k (x : jO) (u : Unp.Y jO) (hok : Unp.ok x u) (hfs : ∀ p ∈ Unp.fs x u, p ∈ R) (k : KO K (kZ d x) H R) : CallsK Tryz.prog w0 21 #[dv A0 c0 A2 c2 d, .agg (Unp.cs x u).toArray] H R K := by
  have hlen : (Unp.cs x u).length = 16 := UnpL.len x u
  obtain ⟨⟨bs, e⟩, he⟩ : ∃ r, uH x = r := ⟨_, rfl⟩
  have hbs := xR he
  have hbs' : bs.length ≤ 9223372036854770000 := by omega
  by_cases hc : eW d = true
  · have herr : iX d = 0 := by unfold iX; rw [if_pos hc]
    by_cases h0 : e = 0
    · subst h0
      have hs : kZ d x = iG d bs := by unfold kZ; rw [if_pos hc, he]; simp only; rw [if_pos trivial]
      rw [hs] at k
      obtain ⟨⟨os, eo⟩, ho⟩ : ∃ r, iG d bs = r := ⟨_, rfl⟩
      rw [ho] at k
      refine bV Tryz.func21 rfl Tryz.ntmps21 fI ?_
      repeat' (first | (refine bJ rfl rfl ?_; refine dX cW (fun b2 => ?_); refine aB ?_) | (refine dK rfl ?_; refine aT fA ?_; refine mA _ _ _ _ d hb hp hm hm2 ?_; rw [herr]; refine aB ?_) | (refine aP rfl ?_; refine aL (i := 0) rfl rfl (cU hlen) ?_; refine aB ?_) | (refine dK rfl ?_; refine aT fA ?_; refine uZ x u hok hfs (uQ (r := (bs, 0)) he.symm (fun A3 c3 => ?_)); refine aB ?_) | (refine dK rfl ?_; refine aT fA ?_; refine tV _ _ _ _ _ _ d bs hb hp hbs' (List.Mem.tail _ hm) (List.Mem.tail _ hm2) (List.Mem.head _) (zK os eo ho (fun AO cO => ?_)); refine aB ?_) | (apply aF) | (apply aA) | (apply bP) | (apply bF) | (apply aJ; exact rfl) | (apply aH) | (apply aD) | (apply aP; exact rfl; ((refine aL (i := 1) rfl rfl rfl ?_)); refine aB ?_) | (apply aU; exact rfl; ((refine eD rfl rfl (fun h => ?_) (fun h => ?_))) <;> (first | (exfalso; omega) | refine aB ?_)) | (refine aE rfl rfl ?_; ((first | refine aG ?_ | refine aY ?_ | refine cD rfl rfl ?_)); refine aB ?_))
      exact aZ (.inl rfl) (iN rfl (bR rfl) (bR rfl)) (cA H (Sl (.slice AO os.length cO) os :: R) dV (k AO cO))
    · have hs : kZ d x = ([], e) := by unfold kZ; rw [if_pos hc, he]; simp only; rw [if_neg h0]
      rw [hs] at k
      refine bV Tryz.func21 rfl Tryz.ntmps21 fI ?_
      repeat' (first | (refine bJ rfl rfl ?_; refine dX cW (fun b2 => ?_); refine aB ?_) | (refine dK rfl ?_; refine aT fA ?_; refine mA _ _ _ _ d hb hp hm hm2 ?_; rw [herr]; refine aB ?_) | (refine aP rfl ?_; refine aL (i := 0) rfl rfl (cU hlen) ?_; refine aB ?_) | (refine dK rfl ?_; refine aT fA ?_; refine uZ x u hok hfs (uQ (r := (bs, e)) he.symm (fun A3 c3 => ?_)); refine aB ?_) | (apply aF) | (apply aA) | (apply bP) | (apply bF) | (apply aK; exact rfl) | (apply aJ; exact rfl) | (apply aH) | (apply aD) | (apply bN) | (apply aP; exact rfl; ((refine aL (i := 1) rfl rfl rfl ?_)); refine aB ?_) | (apply aU; exact rfl; ((refine eD rfl rfl (fun h => ?_) (fun h => ?_))) <;> (first | (exfalso; omega) | refine aB ?_)) | (refine aE rfl rfl ?_; ((first | refine aG ?_ | refine aY ?_ | refine cD rfl rfl ?_)); refine aB ?_))
      exact aZ (.inl rfl) (iN rfl (bR rfl) (bR rfl)) (cA H (Sl (.slice none 0 0) ([] : List DO) :: R) (fun w hs => (hs.weaken eB hP).sl_nil DO) (k none 0))
  · have herr : iX d = 301 := by unfold iX; rw [if_neg hc]
    have hs : kZ d x = ([], 301) := by unfold kZ; rw [if_neg hc]
    rw [hs] at k
    refine bV Tryz.func21 rfl Tryz.ntmps21 fI ?_
    repeat' (first | (refine bJ rfl rfl ?_; refine dX cW (fun b2 => ?_); refine aB ?_) | (refine dK rfl ?_; refine aT fA ?_; refine mA _ _ _ _ d hb hp hm hm2 ?_; rw [herr]; refine aB ?_) | (apply aF) | (apply aA) | (apply bP) | (apply aK; exact rfl) | (apply aH) | (apply aD) | (apply bN) | (apply aP; exact rfl; ((refine aL (i := 1) rfl rfl rfl ?_)); refine aB ?_) | (apply aU; exact rfl; ((refine eD rfl rfl (fun h => ?_) (fun h => ?_))) <;> (first | (exfalso; omega) | refine aB ?_)) | (refine aE rfl rfl ?_; ((first | refine aG ?_ | refine aY ?_)); refine aB ?_))
    exact aZ (.inl rfl) (iN rfl (bR rfl) (bR rfl)) (cA H (Sl (.slice none 0 0) ([] : List DO) :: R) (fun w hs => (hs.weaken eB hP).sl_nil DO) (k none 0))
theorem rsave_k (x : jO) (u : Unp.Y jO) (hok : Unp.ok x u) (hbk : (stB x).length ≤ 1000000000) (hfs : ∀ p ∈ Unp.fs x u, p ∈ R) (k : KOA K (kZ d x) H R) : CallsK Tryz.prog w0 22 #[dv A0 c0 A2 c2 d, .agg (Unp.cs x u).toArray] H R K := by
  have hlen : (Unp.cs x u).length = 16 := UnpL.len x u
  obtain ⟨⟨bs, e⟩, he⟩ : ∃ r, uH x = r := ⟨_, rfl⟩
  have hbs := xR he
  have hbs' : bs.length ≤ 9223372036854770000 := by omega
  by_cases hc : eW d = true
  · have herr : iX d = 0 := by unfold iX; rw [if_pos hc]
    by_cases h0 : e = 0
    · subst h0
      have hs : kZ d x = iG d bs := by unfold kZ; rw [if_pos hc, he]; simp only; rw [if_pos trivial]
      rw [hs] at k
      obtain ⟨⟨os, eo⟩, ho⟩ : ∃ r, iG d bs = r := ⟨_, rfl⟩
      rw [ho] at k
      refine bV Tryz.func22 rfl Tryz.ntmps22 fI ?_
      repeat' (first | (refine bJ rfl rfl ?_; refine dX cW (fun b2 => ?_); refine aB ?_) | (refine dK rfl ?_; refine aT fA ?_; refine qT _ _ _ _ d hb hp hm hm2 ?_; rw [herr]; refine aB ?_) | (refine aP rfl ?_; refine aL (i := 1) rfl rfl (cU hlen) ?_; refine aB ?_) | (refine dK rfl ?_; refine aT fA ?_; refine vA x u hok hbk hfs (xO (r := (bs, 0)) he.symm (fun A3 c3 => ?_)); refine aB ?_) | (refine dK rfl ?_; refine aT fA ?_; refine w7 _ _ _ _ _ _ d bs hb hp hbs' (List.Mem.tail _ hm) (List.Mem.tail _ hm2) (List.Mem.head _) (i9 os eo ho (fun AO cO => ?_)); refine aB ?_) | (apply aF) | (apply aA) | (apply bP) | (apply bF) | (apply aJ; exact rfl) | (apply aH) | (apply aD) | (apply aP; exact rfl; ((first | refine aL (i := 0) rfl rfl rfl ?_ | refine aL (i := 2) rfl rfl rfl ?_ | refine aL (i := 3) rfl rfl rfl ?_)); refine aB ?_) | (apply aU; exact rfl; ((refine eD rfl rfl (fun h => ?_) (fun h => ?_))) <;> (first | (exfalso; omega) | refine aB ?_)) | (apply bE; exact rfl; ((first | refine aN (i := 0) rfl cW rfl dT dB eK ?_ | refine aN (i := 1) rfl cW rfl dT dB eK ?_)); refine aB ?_; refine cE ?_) | (refine aE rfl rfl ?_; ((first | refine aG ?_ | refine aY ?_ | refine aC rfl ?_)); refine aB ?_) | (refine bJ rfl rfl ?_; ((refine bL cW (fun b => ?_))); refine aB ?_))
      exact aZ (.inl rfl) (dP rfl (dC (i := 1) rfl rfl rfl)) (cA H (Sl (.slice AO os.length cO) os :: R) dV (k AO cO))
    · have hs : kZ d x = ([], e) := by unfold kZ; rw [if_pos hc, he]; simp only; rw [if_neg h0]
      rw [hs] at k
      refine bV Tryz.func22 rfl Tryz.ntmps22 fI ?_
      repeat' (first | (refine bJ rfl rfl ?_; refine dX cW (fun b2 => ?_); refine aB ?_) | (refine dK rfl ?_; refine aT fA ?_; refine qT _ _ _ _ d hb hp hm hm2 ?_; rw [herr]; refine aB ?_) | (refine aP rfl ?_; refine aL (i := 1) rfl rfl (cU hlen) ?_; refine aB ?_) | (refine dK rfl ?_; refine aT fA ?_; refine vA x u hok hbk hfs (xO (r := (bs, e)) he.symm (fun A3 c3 => ?_)); refine aB ?_) | (apply aF) | (apply aA) | (apply bP) | (apply bF) | (apply aK; exact rfl) | (apply aJ; exact rfl) | (apply aH) | (apply aD) | (apply bN) | (apply aP; exact rfl; ((first | refine aL (i := 0) rfl rfl rfl ?_ | refine aL (i := 2) rfl rfl rfl ?_)); refine aB ?_) | (apply aU; exact rfl; ((refine eD rfl rfl (fun h => ?_) (fun h => ?_))) <;> (first | (exfalso; omega) | refine aB ?_)) | (apply bE; exact rfl; ((first | refine aN (i := 0) rfl cW rfl dT dB eK ?_ | refine aN (i := 1) rfl cW rfl dT dB eK ?_)); refine aB ?_; refine cE ?_) | (refine aE rfl rfl ?_; ((first | refine aG ?_ | refine aY ?_ | refine aC rfl ?_ | refine dI gG ?_)); refine aB ?_) | (refine bJ rfl rfl ?_; ((refine bL cW (fun b => ?_))); refine aB ?_))
      exact aZ (.inl rfl) (dP rfl (dC (i := 1) rfl rfl rfl)) (cA H (Sl (.slice none 0 0) ([] : List DO) :: R) (fun w hs => (hs.weaken eB hP).sl_nil DO) (k none 0))
  · have herr : iX d = 301 := by unfold iX; rw [if_neg hc]
    have hs : kZ d x = ([], 301) := by unfold kZ; rw [if_neg hc]
    rw [hs] at k
    refine bV Tryz.func22 rfl Tryz.ntmps22 fI ?_
    repeat' (first | (refine bJ rfl rfl ?_; refine dX cW (fun b2 => ?_); refine aB ?_) | (refine dK rfl ?_; refine aT fA ?_; refine qT _ _ _ _ d hb hp hm hm2 ?_; rw [herr]; refine aB ?_) | (apply aF) | (apply aA) | (apply bP) | (apply aK; exact rfl) | (apply aH) | (apply aD) | (apply bN) | (apply aP; exact rfl; ((refine aL (i := 2) rfl rfl rfl ?_)); refine aB ?_) | (apply aU; exact rfl; ((refine eD rfl rfl (fun h => ?_) (fun h => ?_))) <;> (first | (exfalso; omega) | refine aB ?_)) | (apply bE; exact rfl; ((refine aN (i := 0) rfl cW rfl dT dB eK ?_)); refine aB ?_; refine cE ?_) | (refine aE rfl rfl ?_; ((first | refine aG ?_ | refine aY ?_ | refine dI gG ?_)); refine aB ?_) | (refine bJ rfl rfl ?_; ((refine bL cW (fun b => ?_))); refine aB ?_))
    exact aZ (.inl rfl) (dP rfl (dC (i := 0) rfl rfl rfl)) (cA H (Sl (.slice none 0 0) ([] : List DO) :: R) (fun w hs => (hs.weaken eB hP).sl_nil DO) (k none 0))
theorem load_k (k : KL K (nY d) H R) : CallsK Tryz.prog w0 23 #[dv A0 c0 A2 c2 d] H R K := by
  obtain ⟨⟨ys, ey⟩, hy⟩ : ∃ r, kX d = r := ⟨_, rfl⟩
  by_cases h0 : ey = 0
  · subst h0
    obtain ⟨⟨m, at_, f⟩, hd⟩ : ∃ r, nN ys = r := ⟨_, rfl⟩
    have hs : nY d = (m, f) := by unfold nY; rw [hy]; simp only; rw [if_pos trivial, hd]
    rw [hs] at k
    refine bV Tryz.func23 rfl Tryz.ntmps23 fI ?_
    repeat' (first | (refine bJ rfl rfl ?_; refine dX cW (fun b2 => ?_); refine aB ?_) | (refine dK rfl ?_; refine aT fA ?_; refine vT _ _ _ _ d hb hp hm hm2 (zU ys 0 hy (fun AY cY => ?_)); refine aB ?_) | (apply aF) | (apply aA) | (apply bF) | (apply aJ; exact rfl) | (apply aH) | (apply aD) | (apply aP; exact rfl; ((refine aL (i := 1) rfl rfl rfl ?_)); refine aB ?_) | (apply aU; exact rfl; ((refine eD rfl rfl (fun h => ?_) (fun h => ?_))) <;> (first | (exfalso; omega) | refine aB ?_)) | (refine aE rfl rfl ?_; ((first | refine aG ?_ | refine aY ?_ | refine cD rfl rfl ?_)); refine aB ?_) | (refine bJ rfl rfl ?_; ((refine bL cW (fun b => ?_))); refine aB ?_))
    have hbd2 : ys.length ≤ 9223372036854775806 := by
      have := vE d
      rw [hy] at this
      simp only at this
      omega
    refine dK rfl ?_; refine aT fA ?_
    refine decode_k AY cY ys hbd2 (List.Mem.head _) (wH (r := (m, at_, f)) hd.symm (fun y hy => ?_))
    refine aB ?_
    have hly : (Unp.cs m y).length = 16 := UnpL.len m y
    repeat' (first | (refine aE rfl rfl ?_; ((first | refine aG ?_ | refine cD rfl rfl ?_)); refine aB ?_) | (refine bJ rfl rfl ?_; ((refine bL cW (fun b => ?_))); refine aB ?_))
    refine bJ rfl rfl ?_
    refine aN (i := 0) (vs := Unp.cs m y) rfl rfl rfl hly dB (UnpL.one _ _) ?_
    rw [eI (by rw [hly]; rfl)]
    refine aB ?_
    refine cE ?_
    repeat' (first | (refine aP rfl ?_; refine aL (i := 0) rfl rfl (cU hly) ?_; refine aB ?_) | (apply aF) | (apply aA) | (apply aH) | (apply aD) | (refine aE rfl rfl ?_; ((first | refine aG ?_ | refine aY ?_)); refine aB ?_))
    refine bJ rfl rfl ?_
    refine aN (i := 1) (vs := Unp.cs m y) rfl rfl rfl hly dB (UnpL.one _ _) ?_
    rw [eI (by rw [hly]; rfl)]
    refine aB ?_
    refine cE ?_
    repeat' (first | (apply bP) | (apply aH) | (apply aD) | (refine aE rfl rfl ?_; ((refine aY ?_)); refine aB ?_))
    exact aZ (.inl rfl) (iN rfl (dC (i := 1) rfl rfl (cU hly)) (bR rfl)) (cA H (Unp.fs m y ++ R) (fun w hs => hs.weaken eB (fun p hp => by
      rcases List.mem_append.1 hp with hp | hp
      · exact List.mem_append_left _ hp
      · exact List.mem_append_right _ (List.Mem.tail _ hp))) (k y hy))
  · have hs : nY d = (maZ, ey) := by unfold nY; rw [hy]; simp only; rw [if_neg h0]
    rw [hs] at k
    refine bV Tryz.func23 rfl Tryz.ntmps23 fI ?_
    repeat' (first | (refine bJ rfl rfl ?_; refine dX cW (fun b2 => ?_); refine aB ?_) | (refine dK rfl ?_; refine aT fA ?_; refine vT _ _ _ _ d hb hp hm hm2 (zU ys ey hy (fun AY cY => ?_)); refine aB ?_) | (apply aF) | (apply aA) | (apply bP) | (apply aK; exact rfl) | (apply aH) | (apply aD) | (apply bN) | (apply aP; exact rfl; ((refine aL (i := 1) rfl rfl rfl ?_)); refine aB ?_) | (apply aU; exact rfl; ((refine eD rfl rfl (fun h => ?_) (fun h => ?_))) <;> (first | (exfalso; omega) | refine aB ?_)) | (apply bE; exact rfl; ((refine aN (i := 0) rfl cW rfl dT dB eK ?_)); refine aB ?_; refine cE ?_) | (refine aE rfl rfl ?_; ((first | refine aG ?_ | refine aY ?_ | refine cD rfl rfl ?_ | refine dI gG ?_)); refine aB ?_) | (refine bJ rfl rfl ?_; ((refine bL cW (fun b => ?_))); refine aB ?_))
    exact aZ (.inl rfl) (iN rfl (dC (i := 0) rfl rfl rfl) (bR rfl)) (cA H (Unp.fs maZ yZ ++ R) (fun w hs => (hs.weaken eB hP).maZ) (k yZ pT))
theorem rload_k (k : KLr K (nY d) H R) : CallsK Tryz.prog w0 24 #[dv A0 c0 A2 c2 d] H R K := by
  obtain ⟨⟨ys, ey⟩, hy⟩ : ∃ r, kX d = r := ⟨_, rfl⟩
  by_cases h0 : ey = 0
  · subst h0
    obtain ⟨⟨m, at_, f⟩, hd⟩ : ∃ r, nN ys = r := ⟨_, rfl⟩
    have hs : nY d = (m, f) := by unfold nY; rw [hy]; simp only; rw [if_pos trivial, hd]
    rw [hs] at k
    refine bV Tryz.func24 rfl Tryz.ntmps24 fI ?_
    repeat' (first | (refine bJ rfl rfl ?_; refine dX cW (fun b2 => ?_); refine aB ?_) | (refine dK rfl ?_; refine aT fA ?_; refine e9 _ _ _ _ d hb hp hm hm2 (f6 ys 0 hy (fun AY cY => ?_)); refine aB ?_) | (apply aF) | (apply aA) | (apply bF) | (apply aJ; exact rfl) | (apply aH) | (apply aD) | (apply aP; exact rfl; ((first | refine aL (i := 0) rfl rfl rfl ?_ | refine aL (i := 1) rfl rfl rfl ?_)); refine aB ?_) | (apply aU; exact rfl; ((refine eD rfl rfl (fun h => ?_) (fun h => ?_))) <;> (first | (exfalso; omega) | refine aB ?_)) | (apply bE; exact rfl; ((refine aN (i := 0) rfl cW rfl dT dB eK ?_)); refine aB ?_; refine cE ?_) | (refine aE rfl rfl ?_; ((refine aC rfl ?_)); refine aB ?_) | (refine bJ rfl rfl ?_; ((refine bL cW (fun b => ?_))); refine aB ?_))
    have hbd2 : ys.length ≤ 9223372036854775806 := by
      have := vE d
      rw [hy] at this
      simp only at this
      omega
    refine dK rfl ?_; refine aT fA ?_
    refine s6 AY cY ys hbd2 (List.Mem.head _) (tI (r := (m, at_, f)) hd.symm (fun y hy => ?_))
    refine aB ?_
    repeat' ((refine bJ rfl rfl ?_; ((refine bL cW (fun b => ?_))); refine aB ?_))
    have hly : (Unp.cs m y).length = 16 := UnpL.len m y
    have hl3 : (Unp.cs m y ++ [Value.int .i64 at_, Value.int .i64 f]).length = 18 := by rw [List.length_append, hly]; rfl
    refine bJ rfl rfl ?_
    refine aN (i := 0) (vs := Unp.cs m y ++ [Value.int .i64 at_, Value.int .i64 f]) rfl rfl rfl hl3 dB (fun v hv => ?_) ?_
    · rcases List.mem_append.1 hv with hv | hv
      · exact UnpL.one _ _ v hv
      · simp only [List.mem_cons, List.not_mem_nil, or_false] at hv
        rcases hv with rfl | rfl <;> rfl
    rw [eI (by rw [hl3]; rfl)]
    refine aB ?_
    refine cE ?_
    clear hly hl3
    obtain ⟨n1, n2, n3, n4, n5, n6, q1, l1, l2, lF, lB, lS, lV, lT, lC, n7⟩ := m
    obtain ⟨u1, u2, u3, u4, u5, u6, u7, ⟨A1, c1⟩, ⟨A3, c3⟩, ⟨AF, cF⟩, ⟨AB, cB⟩, ⟨AS, cS⟩, ⟨AV, cV⟩, ⟨AT, cT⟩, ⟨AC, cC⟩, u8⟩ := y
    repeat' (first | (refine aP rfl ?_; refine aL (i := 0) (v := .agg #[.int .i64 n1, .int .i64 n2, .int .i64 n3, .int .i64 n4, .int .i64 n5, .int .i64 n6, .bool q1, .slice A1 l1.length c1, .slice A3 l2.length c3, .slice AF lF.length cF, .slice AB lB.length cB, .slice AS lS.length cS, .slice AV lV.length cV, .slice AT lT.length cT, .slice AC lC.length cC, .int .i64 n7]) rfl rfl rfl ?_; refine aB ?_) | (refine aP rfl ?_; refine aL (i := 0) (v := .int .i64 f) rfl rfl rfl ?_; refine aB ?_) | (apply aF) | (apply aA) | (apply bP) | (apply aH) | (apply aD) | (apply bE; exact rfl; ((refine aN (i := 2) rfl cW rfl dT dB eK ?_)); refine aB ?_; refine cE ?_) | (refine aE rfl rfl ?_; ((first | refine aC rfl ?_ | refine dI gG ?_)); refine aB ?_))
    exact aZ (.inl rfl) (dP rfl (dC (i := 2) rfl rfl rfl)) (cA H (Unp.fs _ _ ++ R) (fun w hs => hs.weaken eB (fun p hp => by
      rcases List.mem_append.1 hp with hp | hp
      · exact List.mem_append_left _ hp
      · exact List.mem_append_right _ (List.Mem.tail _ hp))) (k _ hy))
  · have hs : nY d = (maZ, ey) := by unfold nY; rw [hy]; simp only; rw [if_neg h0]
    rw [hs] at k
    refine bV Tryz.func24 rfl Tryz.ntmps24 fI ?_
    repeat' (first | (refine bJ rfl rfl ?_; refine dX cW (fun b2 => ?_); refine aB ?_) | (refine dK rfl ?_; refine aT fA ?_; refine e9 _ _ _ _ d hb hp hm hm2 (f6 ys ey hy (fun AY cY => ?_)); refine aB ?_) | (apply aF) | (apply aA) | (apply bP) | (apply aK; exact rfl) | (apply aH) | (apply aD) | (apply bN) | (apply aP; exact rfl; ((first | refine aL (i := 0) rfl rfl rfl ?_ | refine aL (i := 1) rfl rfl rfl ?_)); refine aB ?_) | (apply aU; exact rfl; ((refine eD rfl rfl (fun h => ?_) (fun h => ?_))) <;> (first | (exfalso; omega) | refine aB ?_)) | (apply bE; exact rfl; ((first | refine aN (i := 0) rfl cW rfl dT dB eK ?_ | refine aN (i := 1) rfl cW rfl dT dB eK ?_)); refine aB ?_; refine cE ?_) | (refine aE rfl rfl ?_; ((first | refine aC rfl ?_ | refine dI gG ?_)); refine aB ?_) | (refine bJ rfl rfl ?_; ((refine bL cW (fun b => ?_))); refine aB ?_))
    exact aZ (.inl rfl) (dP rfl (dC (i := 1) rfl rfl rfl)) (cA H (Unp.fs maZ yZ ++ R) (fun w hs => (hs.weaken eB hP).maZ) (k yZ pT))
end
theorem saves_k {w0 : World} {H : List Hp} {R : List MP} {K : Value → List Hp → List MP → Prop} (A0 : Option Addr) (c0 : Nat) (A2 : Option Addr) (c2 : Nat) (d : Drive) (x : jO) (u : Unp.Y jO) (hok : Unp.ok x u) (hv : Cod.Vd (α := jO) x) (hbk : (stB x).length ≤ 1000000000) (hb : d.bytes.length ≤ 9223372036854775807) (hp : d.pending.length ≤ 9223372036854775807)
    (hm : Sl (.slice A0 d.bytes.length c0) d.bytes ∈ R) (hm2 : Sl (.slice A2 d.pending.length c2) d.pending ∈ R) (hfs : ∀ p ∈ Unp.fs x u, p ∈ R) (k : K (.bool true) H R) : CallsK Tryz.prog w0 5 #[dv A0 c0 A2 c2 d, .agg (Unp.cs x u).toArray] H R K := by
  have hlen : (Unp.cs x u).length = 16 := UnpL.len x u
  have l1 := w9 d x
  obtain ⟨⟨os, eo⟩, ho⟩ : ∃ r, kZ d x = r := ⟨_, rfl⟩
  obtain ⟨⟨m, f⟩, hd⟩ : ∃ r, nY d = r := ⟨_, rfl⟩
  rw [ho] at l1
  simp only at l1
  by_cases hbig : 20000 < d.bytes.length
  · skip
    refine bV Tryz.func5 rfl Tryz.ntmps5 fI ?_
    repeat' (first | (refine bJ rfl rfl ?_; refine dX cW (fun b2 => ?_); refine aB ?_) | (refine dK rfl ?_; refine aT fA ?_; refine sane_k ?_; refine aB ?_) | (apply aF) | (apply aA) | (apply bP) | (apply aK; exact rfl) | (apply aH) | (apply aD) | (apply bN) | (apply aP; exact rfl; ((refine aL (i := 1) rfl rfl rfl ?_)); refine aB ?_) | (apply aU; exact rfl; ((refine fD rfl rfl (fun h => ?_) (fun h => ?_))) <;> (first | (exfalso; omega) | refine aB ?_)) | (refine aE rfl rfl ?_; ((first | refine aG ?_ | refine aY ?_ | refine aC rfl ?_ | refine bS rfl ?_)); refine aB ?_))
    exact aZ (.inl rfl) (dP rfl (bR rfl)) (cA H R dV k)
  · skip
    refine bV Tryz.func5 rfl Tryz.ntmps5 fI ?_
    repeat' (first | (refine bJ rfl rfl ?_; refine dX cW (fun b2 => ?_); refine aB ?_) | (refine dK rfl ?_; refine aT fA ?_; refine sane_k ?_; refine aB ?_) | (refine aP rfl ?_; refine aL (i := 0) rfl rfl (cU hlen) ?_; refine aB ?_) | (refine dK rfl ?_; refine aT fA ?_; refine save_k _ _ _ _ d hb hp hm hm2 x u hok hfs (zK os eo ho (fun AO cO => ?_)); refine aB ?_) | (refine dK rfl ?_; refine aT fA ?_; refine rsave_k _ _ _ _ d hb hp (List.Mem.tail _ hm) (List.Mem.tail _ hm2) x u hok hbk (fun p hp => List.mem_cons_of_mem _ (hfs p hp)) (i9 os eo ho (fun AP cP => ?_)); refine aB ?_) | (apply aF) | (apply aA) | (apply bF) | (apply aJ; exact rfl) | (apply aH) | (apply aD) | (apply aP; exact rfl; ((first | refine aL (i := 1) rfl rfl rfl ?_ | refine aL (i := 2) rfl rfl rfl ?_)); refine aB ?_) | (apply aU; exact rfl; ((refine fD rfl rfl (fun h => ?_) (fun h => ?_))) <;> (first | (exfalso; omega) | refine aB ?_)) | (apply bE; exact rfl; ((refine aN (i := 0) rfl cW rfl dT dB eK ?_)); refine aB ?_; refine cE ?_) | (refine aE rfl rfl ?_; ((first | refine aG ?_ | refine aY ?_ | refine aC rfl ?_ | refine bS rfl ?_ | refine cD rfl rfl ?_)); refine aB ?_) | (refine bJ rfl rfl ?_; ((refine bL cW (fun b => ?_))); refine aB ?_))
    refine dK rfl ?_; refine aT fA ?_
    refine load_k _ _ _ _ d hb hp (List.Mem.tail _ (List.Mem.tail _ hm)) (List.Mem.tail _ (List.Mem.tail _ hm2)) (KL_eq (r := (m, f)) hd.symm (fun y hy => ?_))
    refine aB ?_
    have hly : (Unp.cs m y).length = 16 := UnpL.len m y
    repeat' (first | (refine aE rfl rfl ?_; ((first | refine aG ?_ | refine cD rfl rfl ?_)); refine aB ?_) | (refine bJ rfl rfl ?_; ((refine bL cW (fun b => ?_))); refine aB ?_))
    refine bJ rfl rfl ?_
    refine aN (i := 0) (vs := Unp.cs m y) rfl rfl rfl hly dB (UnpL.one _ _) ?_
    rw [eI (by rw [hly]; rfl)]
    refine aB ?_
    refine cE ?_
    repeat' (first | (apply aF) | (apply aA) | (apply aH) | (apply aD) | (apply aP; exact rfl; ((refine aL (i := 3) rfl rfl rfl ?_)); refine aB ?_) | (refine aE rfl rfl ?_; ((refine aY ?_)); refine aB ?_))
    refine dK rfl ?_; refine aT fA ?_
    refine rload_k _ _ _ _ d hb hp (List.mem_append_right _ (List.Mem.tail _ (List.Mem.tail _ hm))) (List.mem_append_right _ (List.Mem.tail _ (List.Mem.tail _ hm2))) (KLr_eq (r := (m, f)) hd.symm (fun y2 hy2 => ?_))
    refine aB ?_
    repeat' ((refine bJ rfl rfl ?_; ((refine bL cW (fun b => ?_))); refine aB ?_))
    have hl2 : (Unp.cs m y2).length = 16 := UnpL.len m y2
    have hl3 : (Unp.cs m y2 ++ [Value.int .i64 0, Value.int .i64 f]).length = 18 := by rw [List.length_append, hl2]; rfl
    refine bJ rfl rfl ?_
    refine aN (i := 0) (vs := Unp.cs m y2 ++ [Value.int .i64 0, Value.int .i64 f]) rfl rfl rfl hl3 dB (fun v hv => ?_) ?_
    · rcases List.mem_append.1 hv with hv | hv
      · exact UnpL.one _ _ v hv
      · simp only [List.mem_cons, List.not_mem_nil, or_false] at hv
        rcases hv with rfl | rfl <;> rfl
    rw [eI (by rw [hl3]; rfl)]
    refine aB ?_
    refine cE ?_
    repeat' (first | (refine aP rfl ?_; refine aL (i := 0) rfl rfl ((xM (i := 17) hl2 cQ).trans rfl) ?_; refine aB ?_) | (refine aP rfl ?_; refine aL (i := 0) rfl rfl (wE hl2) ?_; refine aB ?_) | (refine aP rfl ?_; refine aL (i := 1) rfl rfl (cU hly) ?_; refine aB ?_) | (refine dK rfl ?_; refine aT fA ?_; refine p8 _ _ _ _ _ _ os aO rfl rfl (List.mem_append_right _ (List.mem_append_right _ (List.Mem.tail _ (List.Mem.head _)))) (List.mem_append_right _ (List.mem_append_right _ (List.Mem.head _))) ?_; refine aB ?_) | (refine dK rfl ?_; refine aT fA ?_; refine same26_k m m y y2 (fun p hp => List.mem_append_right _ (List.mem_append_left _ hp)) (fun p hp => List.mem_append_left _ hp) (fun r hr => ?_); (obtain rfl : r = true := hr rfl); refine aB ?_) | (refine aU rfl ?_; refine fZ (k := .i64) rfl rfl (fun h => ?_) (fun h => absurd rfl h); refine aB ?_) | (apply aF) | (apply aA) | (apply bP) | (apply aH) | (apply aD) | (apply aP; exact rfl; ((refine aL (i := 2) rfl rfl rfl ?_)); refine aB ?_) | (refine aE rfl rfl ?_; ((first | refine aG ?_ | refine aY ?_ | refine bX rfl eR ?_ | refine aC rfl ?_)); refine aB ?_))
    exact aZ (.inl rfl) (dP rfl (bR rfl)) (cA H R (fun w hs => hs.weaken eB (fun p hp => List.mem_append_right _ (List.mem_append_right _ (List.mem_cons_of_mem _ (List.mem_cons_of_mem _ hp))))) k)
end Go.Proofs.YtggdljhmbckpmaaGreat
namespace Go.Proofs.YtggdljhmbckpmaaGreat
open Go Go.RowKit Go.WideShapes
set_option maxRecDepth 100000
set_option maxHeartbeats 1600000
attribute [local semireducible] At S Sl Ls

/-- What can be read at the type 't' is data of the kind 'α'. -/
def Opn (P : Program) (t : TypeId) (α : Type) [Rep α] : Prop := ∀ (H : Type) (enc : TypeId × Value → H) (w : World) (base : Nat) (spare : Nat → Bool) (held : Bool) (fuel : Nat) (cs : List Value) (x : DataW H × List MemPlace),
  DataW.trod enc P w base spare held fuel t cs = some x → ∃ a : α, Rep.rd (sM w) cs a

theorem opn_int {P : Program} {t : TypeId} (h : P.underlying t = some (.int .i64)) : Opn P t Int := fun H enc w base spare held fuel cs x hx => by
  obtain ⟨n, rfl, _, hw⟩ := DataW.trod_int h hx
  simp only [Lit.wf, Bool.and_eq_true, decide_eq_true_eq] at hw
  exact ⟨n, rfl, hw.1, hw.2⟩
theorem opn_u8 {P : Program} {t : TypeId} (h : P.underlying t = some (.int .u8)) : Opn P t UInt8 := fun H enc w base spare held fuel cs x hx => by
  obtain ⟨n, rfl, _, hw⟩ := DataW.trod_int h hx
  simp only [Lit.wf, Bool.and_eq_true, decide_eq_true_eq] at hw
  have h1 : (0 : Int) ≤ n := hw.1
  have h2 : n ≤ (255 : Int) := hw.2
  refine ⟨UInt8.ofNat n.toNat, ?_⟩
  show [Value.int .u8 n] = [Value.int .u8 (((UInt8.ofNat n.toNat).toNat : Nat) : Int)]
  have e : (((UInt8.ofNat n.toNat).toNat : Nat) : Int) = n := by
    rw [UInt8.toNat_ofNat']; omega
  rw [e]
theorem uS {P : Program} {t e : TypeId} {α : Type} [Rep α] (h : P.underlying t = some (.slice e)) (hc : P.cellsOf e = Rep.size α) (hp : 0 < Rep.size α) (he : Opn P e α) : Opn P t (List α) := fun H enc w base spare held fuel cs x hx => by
  rcases DataW.trod_slice h hx with ⟨rfl, _⟩ | ⟨a, len, cap, elems, rest, n, _, rfl, _, _, hl, hm, hel, hget, _⟩
  · exact ⟨[], .slice none 0 0, rfl, none, 0, rfl, ⟨Nat.le_refl _, Nat.zero_le _⟩, fun h0 => absurd h0 dB⟩
  · have hone : ∀ i, i < len → ∃ (y : α) (cs' : List Value), w.cells? base (a.add (i * P.cellsOf e)) (P.cellsOf e) = some cs' ∧ Rep.rd (sM w) cs' y := fun i hi => by
      have := hget i hi
      rw [List.getElem?_eq_getElem aO, Option.bind_eq_some_iff] at this
      obtain ⟨cs', h1, h2⟩ := this
      obtain ⟨y, hy⟩ := he H enc w base spare held n cs' _ h2
      exact ⟨y, cs', h1, hy⟩
    have hall : ∀ m, m ≤ len → ∃ xs : List α, xs.length = m ∧ ∀ i y, xs[i]? = some y → ∃ cs' : List Value, w.cells? base (a.add (i * P.cellsOf e)) (P.cellsOf e) = some cs' ∧ Rep.rd (sM w) cs' y := by
      intro m
      induction m with
      | zero => exact fun _ => ⟨[], rfl, fun i y hi => by simp at hi⟩
      | succ m ih =>
        intro hm'
        obtain ⟨xs, e1, e2⟩ := ih aO
        obtain ⟨y, cs', h1, h2⟩ := hone m aO
        refine ⟨xs ++ [y], by simp [e1], fun i z hi => ?_⟩
        by_cases hh : i < xs.length
        · rw [List.getElem?_append_left hh] at hi
          exact e2 i z hi
        · have hi' := (List.getElem?_eq_some_iff.1 hi).1
          simp at hi'
          obtain rfl : i = xs.length := by omega
          simp at hi
          subst hi
          rw [e1]
          exact ⟨cs', h1, h2⟩
    obtain ⟨xs, e1, e2⟩ := hall len (Nat.le_refl _)
    subst e1
    have hcell : ∀ i y, xs[i]? = some y → ∃ cs' : List Value, Rep.rd (sM w) cs' y ∧ ∀ j v, cs'[j]? = some v → w.cell? ((a.add (i * Rep.size α)).add j) = some v := fun i y hi => by
      obtain ⟨cs', h1, h2⟩ := e2 i y hi
      refine ⟨cs', h2, fun j v hj => ?_⟩
      unfold World.cells? at h1
      split at h1
      · have hlen := mapM_some_length h1
        have hj' := (List.getElem?_eq_some_iff.1 hj).1
        rw [List.length_range] at hlen
        have := mapM_some_get h1 j j (by rw [List.getElem?_range aO])
        rw [hc] at this
        rw [this]; exact hj
      · cases h1
    refine ⟨xs, _, rfl, some a, cap, rfl, ⟨hl, ?_⟩, fun h0 => ?_⟩
    · exact hm
    · have hsp : a.spot = none := by
        obtain ⟨cs', h1, h2⟩ := hcell 0 xs[0] (List.getElem?_eq_getElem h0)
        have hl' := Rep.len h1
        have := h2 0 (cs'[0]'aO) (List.getElem?_eq_getElem aO)
        simp only [Nat.zero_mul, Addr.add, if_pos] at this
        unfold World.cell? at this
        split at this
        · cases hs : a.spot with
          | none => rfl
          | some z => rw [hs] at this; simp at this
        · cases this
      obtain ⟨b, o, sp⟩ := a
      subst hsp
      refine ⟨b, o, rfl, fun i y hi => ?_⟩
      obtain ⟨cs', h1, h2⟩ := hcell i y hi
      refine ⟨cs', h1, fun j v hj => ?_⟩
      have := h2 j v hj
      rw [Addr.add_mk, Addr.add_mk] at this
      exact this
theorem opn_DW {P : Program} {t t1 t2 : TypeId} {f1 f2 : Field} (h : P.underlying t = some (.struct #[f1, f2])) (hc : P.cellsOf t = 2) (h1 : f1.type = t1) (h2 : f2.type = t2) (o1 : f1.offset = 0) (o2 : f2.offset = 1) (c1 : P.cellsOf t1 = 1) (c2 : P.cellsOf t2 = 1) (k1 : Opn P t1 Int) (k2 : Opn P t2 (List UInt8)) : Opn P t DW := fun H enc w base spare held fuel cs x hx => by
  obtain ⟨xs, n, _, _, hl, hxl, hf⟩ := DataW.trod_struct h hx
  rw [hc] at hl
  have hxl2 : xs.length = 2 := hxl
  have g1 := hf 0 f1 rfl
  have g2 := hf 1 f2 rfl
  rw [h1, o1, c1, List.getElem?_eq_getElem aO] at g1
  rw [h2, o2, c2, List.getElem?_eq_getElem aO] at g2
  match cs, hl with
  | [u, v], _ =>
    obtain ⟨a, ea, ha1, ha2⟩ := k1 _ _ _ _ _ _ _ _ _ g1
    obtain ⟨b, v', eb, hb⟩ := k2 _ _ _ _ _ _ _ _ _ g2
    simp at ea eb
    subst ea eb
    obtain ⟨A, c, rfl, hA⟩ := hb
    exact ⟨⟨a, b⟩, A, c, rfl, ⟨ha1, ha2⟩, A, c, rfl, hA⟩
/-- A struct of two slices: its two cells. -/
theorem opn_two {P : Program} {t t1 t2 : TypeId} {f1 f2 : Field} {α β : Type} [Rep α] [Rep β] (h : P.underlying t = some (.struct #[f1, f2])) (hc : P.cellsOf t = 2) (h1 : f1.type = t1) (h2 : f2.type = t2) (o1 : f1.offset = 0) (o2 : f2.offset = 1) (c1 : P.cellsOf t1 = 1) (c2 : P.cellsOf t2 = 1) (k1 : Opn P t1 α) (k2 : Opn P t2 β)
    {H : Type} {enc : TypeId × Value → H} {w : World} {base : Nat} {spare : Nat → Bool} {held : Bool} {fuel : Nat} {cs : List Value} {x : DataW H × List MemPlace} (hx : DataW.trod enc P w base spare held fuel t cs = some x) :
    ∃ (u v : Value) (a : α) (b : β), cs = [u, v] ∧ Rep.rd (sM w) [u] a ∧ Rep.rd (sM w) [v] b := by
  obtain ⟨xs, n, _, _, hl, hxl, hf⟩ := DataW.trod_struct h hx
  rw [hc] at hl
  have hxl2 : xs.length = 2 := hxl
  have g1 := hf 0 f1 rfl
  have g2 := hf 1 f2 rfl
  rw [h1, o1, c1, List.getElem?_eq_getElem aO] at g1
  rw [h2, o2, c2, List.getElem?_eq_getElem aO] at g2
  match cs, hl with
  | [u, v], _ =>
    obtain ⟨a, ha⟩ := k1 _ _ _ _ _ _ _ _ _ g1
    obtain ⟨b, hb⟩ := k2 _ _ _ _ _ _ _ _ _ g2
    exact ⟨u, v, a, b, rfl, ha, hb⟩
theorem uY : Opn Tryz.prog 33 (List UInt8) := uS Tryz.underlying33 (by kernel_rfl) Nat.one_pos (opn_u8 Tryz.underlying5)
theorem zE : Opn Tryz.prog 49 (List DW) := uS Tryz.underlying49 (by kernel_rfl) (show 0 < 2 by decide) (opn_DW Tryz.underlying139 (by kernel_rfl) rfl rfl rfl rfl (by kernel_rfl) (by kernel_rfl) (opn_int Tryz.underlying3) uY)
/-- A drive: its value, and what it reads as. -/
theorem r9 {H : Type} {enc : TypeId × Value → H} {w : World} {base : Nat} {spare : Nat → Bool} {held : Bool} {cs : Array Value} {d : DataW H} {ps : List MemPlace} (h : DataW.Trod enc Tryz.prog w base spare held 51 (.agg cs) d ps) : ∃ A c A2 c2 dr, Value.agg cs = dv A c A2 c2 dr ∧ (Sl (.slice A dr.bytes.length c) dr.bytes).p (sM w) ∧ (Sl (.slice A2 dr.pending.length c2) dr.pending).p (sM w) := by
  obtain ⟨fuel, hf⟩ := h
  obtain ⟨u, v, a, b, e, ha, hb⟩ := opn_two Tryz.underlying51 (by kernel_rfl) rfl rfl rfl rfl (by kernel_rfl) (by kernel_rfl) uY zE hf
  obtain ⟨cl⟩ := cs
  obtain rfl : cl = [u, v] := e
  obtain ⟨u', eu, hu⟩ := ha
  obtain ⟨v', ev', hv⟩ := hb
  simp at eu ev'
  subst eu ev'
  obtain ⟨A, c, rfl, h2⟩ := hu
  obtain ⟨A2, c2, rfl, h3⟩ := hv
  exact ⟨A, c, A2, c2, ⟨a, b⟩, rfl, ⟨A, c, rfl, h2⟩, A2, c2, rfl, h3⟩
attribute [local semireducible] CallsK
theorem CallsK.run {P : Program} {w0 w : World} {f : FuncId} {args : Array Value} {H : List Hp} {R : List MP} {K : Value → List Hp → List MP → Prop} (h : CallsK P w0 f args H R K) (hs : S w0 w H R) : Calls P f args w (fun e w' => ∃ v H' R', e = .returned v ∧ S w0 w' H' R' ∧ K v H' R') := h w hs
end Go.Proofs.YtggdljhmbckpmaaGreat
namespace Go.Proofs.YtggdljhmbckpmaaGreat
set_option maxRecDepth 100000
open Go Go.RowKit Go.WideShapes
attribute [local semireducible] At S Sl Ls
end Go.Proofs.YtggdljhmbckpmaaGreat
