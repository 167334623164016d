/- The functions of package image on drives: walks. What a drive has: walks. Drives: NewDrive, right, and the search for what is not right: walks. Read; records: their ends, their words: walks. -/
import Derived.Test.YtggdljhmbckpmaaGreatF2J
import Derived.Test.YtggdljhmbckpmaaGreatA10J
set_option linter.unusedVariables false
set_option linter.unusedSimpArgs false
namespace Go.Proofs.YtggdljhmbckpmaaGreat
open Go Go.RowKit
set_option maxRecDepth 100000
set_option maxHeartbeats 800000

def jW (at_ n size : Int) : Bool := decide (0 ≤ at_ ∧ at_ ≤ size ∧ n ≤ size - at_)
theorem xP {w0 : World} {H : List Hp} {R : List MP} {K : Value → List Hp → List MP → Prop} (a n s : Int) (ha : dO a) (hn : 0 ≤ n ∧ n ≤ 9223372036854775807) (hs : 0 ≤ s ∧ s ≤ 9223372036854775807)
    (k : K (.bool (jW a n s)) H R) : CallsK Tryz.prog w0 112 #[.int .i64 a, .int .i64 n, .int .i64 s] H R K := by
  unfold jW at k
  unfold dO at ha
  refine bV Tryz.func112 rfl Tryz.ntmps112 fI ?_
  repeat' (first | (apply aF) | (apply aA) | (apply bP) | (apply aH) | (apply aD) | (apply aU; exact rfl; ((refine eY rfl rfl aO aO ?_)); refine aB ?_) | (apply aU; exact rfl; ((first | refine lY rfl rfl (fun h => ?_) (fun h => ?_) | refine jS rfl rfl (fun h => ?_) (fun h => ?_))) <;> (refine aB ?_)) | (refine aE rfl rfl ?_; ((first | refine aG ?_ | refine aY ?_ | refine bX rfl eR ?_ | refine cH rfl eR ?_)); refine aB ?_) | (refine cX rfl ?_; refine aB ?_))
  all_goals
    refine aZ (.inl rfl) (dP rfl (bR rfl)) (cA H R (fun _ h => h) ?_)
    (first | (rw [decide_eq_false aO] at k; exact k) | (rw [decide_eq_true aO] at k; exact k))

theorem p2 {w0 : World} {H : List Hp} {R : List MP} {K : Value → List Hp → List MP → Prop} (a n s : Int) (ha : dO a) (hn : 0 ≤ n ∧ n ≤ 9223372036854775807) (hs : 0 ≤ s ∧ s ≤ 9223372036854775807)
    (kt : jW a n s = true → K (.bool true) H R) (kf : jW a n s = false → K (.bool false) H R) : CallsK Tryz.prog w0 112 #[.int .i64 a, .int .i64 n, .int .i64 s] H R K := by
  refine xP a n s ha hn hs ?_
  cases h : jW a n s
  · exact kf h
  · exact kt h

abbrev dv (A : Option Addr) (c : Nat) (A2 : Option Addr) (c2 : Nat) (d : Drive) : Value := .agg #[.slice A d.bytes.length c, .slice A2 d.pending.length c2]
def wOk (n : Nat) (w : DW) : Bool := jW w.at_ (w.data.length : Int) (n : Int)
def eW (d : Drive) : Bool := decide (64 ≤ d.bytes.length) && decide (d.bytes.length ≤ 600000) && decide (d.bytes.length % 2 = 0) && decide (d.pending.length ≤ 100) && d.pending.all (wOk d.bytes.length)
def iX (d : Drive) : Int := if eW d then 0 else 301
theorem k6 {d : Drive} (h : ¬ (64 ≤ d.bytes.length ∧ d.bytes.length ≤ 600000 ∧ d.bytes.length % 2 = 0 ∧ d.pending.length ≤ 100)) : iX d = 301 := by
  unfold iX eW
  rw [if_neg]
  simp only [Bool.and_eq_true, decide_eq_true_eq]
  intro hh
  exact h ⟨hh.1.1.1.1, hh.1.1.1.2, hh.1.1.2, hh.1.2⟩
theorem errD_w {d : Drive} {i : Nat} (hi : i < d.pending.length) (h : wOk d.bytes.length d.pending[i] = false) : iX d = 301 := by
  unfold iX eW
  rw [if_neg]
  simp only [Bool.and_eq_true]
  intro hh
  have := List.all_eq_true.1 hh.2 _ (List.getElem_mem hi)
  rw [h] at this; cases this
theorem xT {d : Drive} (h : 64 ≤ d.bytes.length ∧ d.bytes.length ≤ 600000 ∧ d.bytes.length % 2 = 0 ∧ d.pending.length ≤ 100) (hw : ∀ i (hi : i < d.pending.length), wOk d.bytes.length d.pending[i] = true) : iX d = 0 := by
  unfold iX eW
  rw [if_pos]
  simp only [Bool.and_eq_true, decide_eq_true_eq]
  refine ⟨⟨⟨⟨h.1, h.2.1⟩, h.2.2.1⟩, h.2.2.2⟩, List.all_eq_true.2 fun w hw' => ?_⟩
  obtain ⟨i, hi, rfl⟩ := List.mem_iff_getElem.1 hw'
  exact hw i hi
theorem qE {K : Value → List Hp → List MP → Prop} {k : IntKind} {H : List Hp} {R : List MP} {a b : Int} (h : a = b) (hk : K (.int k b) H R) : K (.int k a) H R := h ▸ hk



theorem mA {w0 : World} {H : List Hp} {R : List MP} {K : Value → List Hp → List MP → Prop} (A : Option Addr) (c : Nat) (A2 : Option Addr) (c2 : Nat) (d : Drive) (hb : d.bytes.length ≤ 9223372036854775807) (hp : d.pending.length ≤ 9223372036854775807)
    (hm : Sl (.slice A d.bytes.length c) d.bytes ∈ R) (hm2 : Sl (.slice A2 d.pending.length c2) d.pending ∈ R)
    (k : K (.int .i64 (iX d)) H R) : CallsK Tryz.prog w0 53 #[dv A c A2 c2 d] H R K := by
  refine bV Tryz.func53 rfl Tryz.ntmps53 fI ?_
  repeat' (first | (apply aF) | (apply aA) | (apply aV) | (apply bP) | (apply bF) | (apply aK; exact rfl) | (apply aJ; exact rfl) | (apply aH) | (apply aD) | (apply bN) | (apply aP; exact rfl; ((refine aL (i := 0) rfl rfl rfl ?_)); refine aB ?_) | (apply aU; exact rfl; ((refine lA rfl rfl aO aO ?_)); refine aB ?_) | (apply aU; exact rfl; ((first | refine bQ rfl rfl (fun h => ?_) (fun h => ?_) | refine fD rfl rfl (fun h => ?_) (fun h => ?_) | refine fZ rfl rfl (fun h => ?_) (fun h => ?_))) <;> (refine aB ?_)) | (refine aE rfl rfl ?_; ((first | refine aG ?_ | refine aY ?_ | refine bX rfl eR ?_ | refine cH rfl eR ?_ | refine aC rfl ?_ | refine bS rfl ?_)); refine aB ?_) | (refine cX rfl ?_; refine aB ?_) | (refine bJ rfl rfl ?_; ((refine dX cW (fun b => ?_))); refine aB ?_))
  iterate 4
    · refine aZ (.inl rfl) (dP rfl (bR rfl)) (cA H R (fun w hs => hs.weaken (List.sublist_cons_self _ _) (fun p hp => hp)) ?_)
      exact qE (k6 aO).symm k
  have hlen : 64 ≤ d.bytes.length ∧ d.bytes.length ≤ 600000 ∧ d.bytes.length % 2 = 0 ∧ d.pending.length ≤ 100 := by omega
  refine cM [2, 5, 29, 30, 31, 32, 33, 34, 35, 36, 37, 38, 39, 40, 41] (fun m j H' R' => .blk b [.slice A d.bytes.length c, .slice A2 d.pending.length c2] 51 :: H = H' ∧ R = R' ∧ ∃ i : Nat, i + m = d.pending.length ∧ j 29 = .int .i64 i ∧ ∀ l (hl : l < d.pending.length), l < i → wOk d.bytes.length d.pending[l] = true) d.pending.length eS ⟨rfl, rfl, 0, by omega, rfl, fun l hl h => by omega⟩ ?_
  rintro m j H' R' ⟨hH, hR, i, hi, h29, hall⟩
  subst hH; subst hR
  refine dD (by simp only [eF, List.foldl_cons, List.foldl_nil, List.set_cons_succ, List.set_cons_zero, *]; rfl) ?_
  have HA := Go.Lib.hid hall
  clear hall
  repeat' (first | (refine dK rfl ?_; refine aT fA ?_; refine p2 _ _ _ hI ⟨by omega, by omega⟩ ⟨by omega, by omega⟩ (fun hB => ?_) (fun hB => ?_) <;> refine aB ?_) | (apply aF) | (apply aA) | (apply aV) | (apply bP) | (apply bF) | (apply cG) | (apply aK; exact rfl) | (apply aJ; exact rfl) | (apply aH) | (apply aD) | (apply bN) | (apply aW) | (apply bU) | (apply dQ) | (apply aS) | (apply aP; exact rfl; ((first | refine aL (i := 0) rfl rfl rfl ?_ | refine bD rfl cL rfl ?_)); refine aB ?_) | (apply aU; exact rfl; ((refine bM rfl rfl aO aO ?_)); refine aB ?_) | (apply aU; exact rfl; ((refine bQ rfl rfl (fun h => ?_) (fun h => ?_))) <;> (refine aB ?_)) | (apply gZ; exact rfl; ((refine iB eR rfl aX (List.getElem?_eq_getElem aO) (fun b o A c hI hL => ?_))); refine aB ?_) | (apply bE; exact rfl; ((refine aN (i := 0) rfl cW rfl dT dB eK ?_)); refine aB ?_; refine cE ?_) | (refine aE rfl rfl ?_; ((first | refine aG ?_ | refine aY ?_ | refine aC rfl ?_ | refine bS rfl ?_ | refine dJ rfl ?_)); refine aB ?_) | (refine bJ rfl rfl ?_; ((refine bL cW (fun b => ?_))); refine aB ?_))
  · refine cJ (m - 1) _ R aO eS ⟨rfl, rfl, i + 1, by omega, rfl, fun l hl h => ?_⟩ (fun w hs => hs.weaken dB (fun p hp => by simp [hp]))
    by_cases e : l = i
    · subst e; exact hB
    · exact HA.out l hl aO
  · refine aZ (.inl rfl) (dP rfl (bR rfl)) (cA H R (fun w hs => hs.weaken dB (fun p hp => by simp [hp])) ?_)
    exact qE (errD_w aO hB).symm k
  · refine aZ (.inl rfl) (dP rfl (bR rfl)) (cA H R (fun w hs => hs.weaken dB (fun p hp => hp)) ?_)
    exact qE (xT hlen (fun l hl => HA.out l hl aO)).symm k
end Go.Proofs.YtggdljhmbckpmaaGreat
namespace Go.Proofs.YtggdljhmbckpmaaGreat
open Go Go.RowKit
set_option maxRecDepth 100000
set_option maxHeartbeats 800000

def pI (xs : List UInt8) (a : Nat) (ys : List UInt8) : List UInt8 := xs.take a ++ ys ++ xs.drop (a + ys.length)
def gW (d : Drive) : List UInt8 := d.pending.foldl (fun xs w => pI xs w.at_.toNat w.data) d.bytes
theorem kP (xs : List UInt8) (a : Nat) (ys : List UInt8) (h : a + ys.length ≤ xs.length) : (pI xs a ys).length = xs.length := by
  simp [pI]; omega
theorem pM (xs : List UInt8) (a : Nat) (ys : List UInt8) (sp : List Value) (h : a + ys.length ≤ xs.length) : gL (bC xs ++ sp) a (bC ys) = bC (pI xs a ys) ++ sp := by
  simp only [gL, pI, eX]
  have h1 : (bC xs ++ sp).take a = bC (xs.take a) := by
    rw [List.take_append_of_le_length (by simp; omega)]; simp [bC, List.map_take]
  have h2 : (bC xs ++ sp).drop (a + (bC ys).length) = bC (xs.drop (a + ys.length)) ++ sp := by
    rw [List.drop_append_of_le_length (by simp; omega)]; simp [bC, List.map_drop]
  rw [h1, h2]; simp
theorem mO (xs ys : List UInt8) (sp : List Value) (a dn o' : Nat) (hdn : dn = xs.length - a) (ho : dn = 0 ∨ o' = 0 + a * 1) (h : a + ys.length ≤ xs.length) : gL (bC xs ++ sp) o' (bC (ys.take dn)) = bC (pI xs a ys) ++ sp := by
  rw [List.take_of_length_le (show ys.length ≤ dn by omega)]
  rcases ho with ho | ho
  · have hy : ys = [] := List.eq_nil_of_length_eq_zero aO
    subst hy
    have e : gL (bC xs ++ sp) o' (bC []) = bC xs ++ sp := by simp [gL, bC]
    rw [e]
    simp [pI]
  · have : o' = a := by omega
    subst this
    exact pM xs o' ys sp h
theorem qS {a : Int} {n s : Nat} (h : jW a (n : Int) (s : Int) = true) : 0 ≤ a ∧ a.toNat + n ≤ s := by
  unfold jW at h
  have := of_decide_eq_true h
  omega
theorem fX {d : Drive} (h : eW d = true) : 64 ≤ d.bytes.length ∧ d.bytes.length ≤ 600000 ∧ d.bytes.length % 2 = 0 ∧ d.pending.length ≤ 100 ∧ ∀ i (hi : i < d.pending.length), 0 ≤ d.pending[i].at_ ∧ d.pending[i].at_.toNat + d.pending[i].data.length ≤ d.bytes.length := by
  unfold eW at h
  simp only [Bool.and_eq_true, decide_eq_true_eq] at h
  obtain ⟨⟨⟨⟨h1, h2⟩, h3⟩, h4⟩, h5⟩ := h
  refine ⟨h1, h2, h3, h4, fun i hi => ?_⟩
  have := List.all_eq_true.1 h5 _ (List.getElem_mem hi)
  exact qS this
theorem nK (n : Nat) : ∀ (ws : List DW) (xs : List UInt8), xs.length = n → (∀ w ∈ ws, w.at_.toNat + w.data.length ≤ n) → (ws.foldl (fun xs w => pI xs w.at_.toNat w.data) xs).length = n
  | [], xs, h, _ => h
  | w :: ws, xs, h, hw => nK n ws _ (by rw [kP _ _ _ (by rw [h]; exact hw w dB)]; exact h) (fun w' hw' => hw w' (by simp [hw']))
theorem fM {d : Drive} (h : eW d = true) : (gW d).length = d.bytes.length := by
  obtain ⟨_, _, _, _, hw⟩ := fX h
  refine nK _ _ _ rfl fun w hw' => ?_
  obtain ⟨i, hi, rfl⟩ := List.mem_iff_getElem.1 hw'
  exact (hw i hi).2

theorem j5 {w0 : World} {H : List Hp} {R : List MP} {K : Value → List Hp → List MP → Prop} (A : Option Addr) (c : Nat) (A2 : Option Addr) (c2 : Nat) (d : Drive) (hd : eW d = true)
    (hm : Sl (.slice A d.bytes.length c) d.bytes ∈ R) (hm2 : Sl (.slice A2 d.pending.length c2) d.pending ∈ R)
    (k : ∀ v, K v (.row v 5 1 (gW d).length (bC (gW d)) :: H) R) : CallsK Tryz.prog w0 54 #[dv A c A2 c2 d] H R K := by
  obtain ⟨h64, hmax, hmod, h100, hw⟩ := fX hd
  rw [fM hd] at k
  have HW := Go.Lib.hid hw
  clear hw
  refine bV Tryz.func54 rfl Tryz.ntmps54 fI ?_
  repeat' (first | (refine dK rfl ?_; refine aT fA ?_; refine oQ _ _ _ aO aX (fun v => ?_); refine aB ?_) | (apply aF) | (apply aA) | (apply aV) | (apply aH) | (apply aD) | (apply aP; exact rfl; ((first | refine aL (i := 0) rfl rfl rfl ?_ | refine aL (i := 1) rfl rfl rfl ?_)); refine aB ?_) | (refine aE rfl rfl ?_; ((first | refine aG ?_ | refine aY ?_ | refine aC rfl ?_ | refine bS rfl ?_)); refine aB ?_) | (refine bJ rfl rfl ?_; ((refine dX cW (fun b => ?_))); refine aB ?_))
  refine tQ 0 rfl aO (fun b' cap sp hv hl1 hl2 hcap hcapm => ?_)
  subst hv
  refine jB tH ?_
  refine cM [5, 12, 13, 14, 15, 16, 17, 18, 19, 20, 21, 22, 23] (fun m j H' R' => R = R' ∧ ∃ i : Nat, i + m = d.pending.length ∧ j 12 = .int .i64 i ∧ ∃ cur : List UInt8, cur.length = d.bytes.length ∧ cur = (d.pending.take i).foldl (fun xs w => pI xs w.at_.toNat w.data) d.bytes ∧
    (.blk b' (bC cur ++ sp) 5 :: .blk b [.slice A d.bytes.length c, .slice A2 d.pending.length c2] 51 :: H) = H') d.pending.length eS ⟨rfl, 0, by omega, rfl, d.bytes, rfl, rfl, rfl⟩ ?_
  rintro m j H' R' ⟨hR, i, hi, h12, cur, hcl, hcur, hH⟩
  subst hH; subst hR
  have HC := Go.Lib.hid hcur
  clear hcur
  refine dD (by simp only [eF, List.foldl_cons, List.foldl_nil, List.set_cons_succ, List.set_cons_zero, h12]; rfl) ?_
  repeat' (first | (apply aF) | (apply aA) | (apply aV) | (apply bP) | (apply bF) | (apply cG) | (apply aK; exact rfl) | (apply aJ; exact rfl) | (apply aH) | (apply aD) | (apply aW) | (apply aS) | (apply aP; exact rfl; ((refine bD rfl cL rfl ?_)); refine aB ?_) | (apply aU; exact rfl; ((refine bQ rfl rfl (fun h => ?_) (fun h => ?_))) <;> (refine aB ?_)) | (apply gZ; exact rfl; ((refine iB eR rfl aX (List.getElem?_eq_getElem aO) (fun b o A c hI hL => ?_))); refine aB ?_) | (apply bE; exact rfl; ((refine aN (i := 0) rfl cW rfl dT dB eK ?_)); refine aB ?_; refine cE ?_) | (refine aE rfl rfl ?_; ((first | refine aG ?_ | refine aY ?_)); refine aB ?_) | (refine bJ rfl rfl ?_; ((refine bL cW (fun b => ?_))); refine aB ?_))
  · have hwi : 0 ≤ d.pending[i].at_ ∧ d.pending[i].at_.toNat + d.pending[i].data.length ≤ d.bytes.length := HW.out i aO
    refine eC fK jN (fun _ _ _ _ _ _ h => h) (List.Sublist.cons_cons _ fE) ?_
    all_goals ((refine bY 0 (List.Sublist.cons_cons _ fE) ?_; ((refine aG ?_)); refine aI ?_))
    all_goals ((refine bY 1 (List.Sublist.cons_cons _ fE) ?_; ((refine aC rfl ?_)); refine aI ?_))
    all_goals ((refine bY 2 (List.Sublist.cons_cons _ fE) ?_; ((refine aL (i := 0) rfl rfl rfl ?_)); refine aI ?_))
    all_goals ((refine bY 3 (List.Sublist.cons_cons _ fE) ?_; ((refine jY rfl rfl rfl aO aO aO (fun o' ho' => ?_))); refine aI ?_))
    all_goals ((refine bY 4 (List.Sublist.cons_cons _ fE) ?_; ((refine aC rfl ?_)); refine aI ?_))
    all_goals ((refine bY 5 (List.Sublist.cons_cons _ fE) ?_; ((refine aL (i := 0) rfl rfl rfl ?_)); refine aI ?_))
    -- left: [6]; ready: [6]: ['call copy']
    refine mY 6 ?_
    refine rC (i := 1) rfl rfl aX rfl (fun h => by simp; omega) ?_
    refine ⟨.inl (fun w hs => hs.weaken dB (fun p hp => hp)), ?_⟩
    refine kU jN ?_
    repeat' (first | (apply aA) | (apply aH) | (apply aD) | (apply bU) | (apply aU; exact rfl; ((refine bM rfl rfl aO aO ?_)); refine aB ?_) | (refine aE rfl rfl ?_; ((refine aG ?_)); refine aB ?_))
    refine cJ (m - 1) (.blk b' (bC (pI cur d.pending[i].at_.toNat d.pending[i].data) ++ sp) 5 :: _) R aO eS ⟨rfl, i + 1, by omega, rfl, pI cur d.pending[i].at_.toNat d.pending[i].data, by rw [kP _ _ _ aO]; exact hcl, ?_, rfl⟩ (fun w hs => ?_)
    · rw [HC.out, List.take_succ_eq_append_getElem aO, List.foldl_append, List.foldl_cons, List.foldl_nil]
    · have e := mO cur d.pending[i].data sp d.pending[i].at_.toNat ((d.bytes.length : Int).toNat - d.pending[i].at_.toNat) o' (by simp [hcl]) ho' aO
      rw [e] at hs
      exact hs.weaken dB (fun p hp => by simp [hp])
  · refine aZ (.inl rfl) (dP rfl (bR rfl)) (cA (.row (.slice (some ⟨b', 0, none⟩) d.bytes.length cap) 5 1 d.bytes.length (bC (gW d)) :: H) R (fun w hs => ?_) (k _))
    have hc2 : cur = gW d := by
      rw [HC.out, List.take_of_length_le aO]; rfl
    rw [hc2] at hs
    have h1 := hs.torow (i := 0) (n := d.bytes.length) (cap := cap) (size := 1) rfl (by rw [← hl1]; simp [fM hd]) (by simp [fM hd]) hcap hcapm
    exact h1.weaken dB (fun p hp => hp)
end Go.Proofs.YtggdljhmbckpmaaGreat
namespace Go.Proofs.YtggdljhmbckpmaaGreat
open Go Go.RowKit
set_option maxRecDepth 100000
set_option maxHeartbeats 800000

abbrev jH (A : Option Addr) (c : Nat) (A2 : Option Addr) (c2 : Nat) (d : Drive) (R : List MP) : List MP := Sl (.slice A d.bytes.length c) d.bytes :: Sl (.slice A2 d.pending.length c2) d.pending :: R
/-- A drive and an errno are returned, the drive for good. -/
def KD (K : Value → List Hp → List MP → Prop) (r : Drive × Int) (H : List Hp) (R : List MP) : Prop := ∀ A c A2 c2, K (.tuple #[dv A c A2 c2 r.1, .int .i64 r.2]) H (jH A c A2 c2 r.1 R)
theorem sC {K : Value → List Hp → List MP → Prop} {r r' : Drive × Int} {H : List Hp} {R : List MP} (e : r = r') (h : KD K r H R) : KD K r' H R := e ▸ h
theorem qC {w0 w : World} {H : List Hp} {R : List MP} (h : S w0 w H R) : S w0 w H (jH none 0 none 0 ⟨[], []⟩ R) := (h.sl_nil DW).sl_nil UInt8

def newD (n : Int) : Drive × Int := if n < 64 ∨ 600000 < n ∨ n % 2 = 1 then (⟨[], []⟩, 1) else (⟨List.replicate n.toNat 0, []⟩, 0)
theorem yQ (n : Nat) : bC (List.replicate n 0) = List.replicate n (.int .u8 0) := by simp [bC, fH]
theorem tE {w0 : World} {H : List Hp} {R : List MP} {K : Value → List Hp → List MP → Prop} (n : Int) (hI : dO n) (k : KD K (newD n) H R) : CallsK Tryz.prog w0 25 #[.int .i64 n] H R K := by
  unfold dO at hI
  refine bV Tryz.func25 rfl Tryz.ntmps25 fI ?_
  repeat' (first | (apply aF) | (apply aA) | (apply bP) | (apply bF) | (apply aK; exact rfl) | (apply aJ; exact rfl) | (apply aH) | (apply aD) | (apply bN) | (apply aU; exact rfl; ((refine lA rfl rfl aO aO ?_)); refine aB ?_) | (apply aU; exact rfl; ((first | refine bQ rfl rfl (fun h => ?_) (fun h => ?_) | refine fD rfl rfl (fun h => ?_) (fun h => ?_) | refine fZ rfl rfl (fun h => ?_) (fun h => ?_))) <;> (refine aB ?_)) | (apply bE; exact rfl; ((refine aN (i := 0) rfl cW rfl dT dB eK ?_)); refine aB ?_; refine cE ?_) | (refine aE rfl rfl ?_; ((first | refine aG ?_ | refine aY ?_ | refine bX rfl eR ?_ | refine cH rfl eR ?_ | refine dI gG ?_)); refine aB ?_) | (refine cX rfl ?_; refine aB ?_) | (refine bJ rfl rfl ?_; ((refine bL cW (fun b => ?_))); refine aB ?_))
  iterate 3
    · refine aZ (.inl rfl) (iN rfl (dC (i := 0) rfl rfl rfl) (bR rfl)) (cA H _ (fun w hs => qC (hs.weaken dB (fun _ h => h))) ?_)
      exact sC (r' := (⟨[], []⟩, 1)) (by unfold newD; rw [if_pos aO]) k none 0 none 0
  obtain ⟨m, rfl⟩ : ∃ m : Nat, n = m := ⟨n.toNat, by omega⟩
  refine bJ rfl rfl ?_
  refine gw_make (n := m) rfl rfl aO aO (fun b' => ?_)
  refine aB ?_
  repeat' (first | (apply bP) | (apply aH) | (apply aD) | (apply bE; exact rfl; ((refine aN (i := 1) rfl cW rfl dT dB eK ?_)); refine aB ?_; refine cE ?_) | (refine aE rfl rfl ?_; ((first | refine aY ?_ | refine dI gG ?_)); refine aB ?_))
  have k' := sC (r' := (⟨List.replicate m 0, []⟩, 0)) (by unfold newD; rw [if_neg aO]; simp) k (some ⟨b', 0, none⟩) m none 0
  simp only [dv, jH, List.length_replicate, List.length_nil] at k'
  refine aZ (.inl rfl) (iN rfl (dC (i := 1) rfl rfl rfl) (bR rfl)) (cA H _ (fun w hs => ?_) k')
  rw [← yQ] at hs
  have h2 := hs.bytes_stay (i := 0) (n := m) (c := m) rfl dB aO (by simp only [eO]; omega)
  exact ((h2.sl_nil DW).weaken dB (fun p hp => by
    simp only [List.mem_cons] at hp ⊢
    rcases hp with hp | hp | hp
    · exact .inr (.inl hp)
    · exact .inl hp
    · exact .inr (.inr hp)))

def jP (n : Nat) (x : DO) : Bool := if x.kind = 1 then jW x.at_ (x.data.length : Int) (n : Int) else if x.kind = 2 then decide (x.at_ = 0 ∧ x.data.length = 0) else false
abbrev opV (A : Option Addr) (c : Nat) (x : DO) : Value := .agg #[.int .i64 x.kind, .int .i64 x.at_, .slice A x.data.length c]
theorem right_k {w0 : World} {H : List Hp} {R : List MP} {K : Value → List Hp → List MP → Prop} (A : Option Addr) (c : Nat) (A2 : Option Addr) (c2 : Nat) (A3 : Option Addr) (c3 : Nat) (d : Drive) (x : DO) (hb : d.bytes.length ≤ 9223372036854775807) (hI : dO x.at_) (hl : x.data.length ≤ 9223372036854775807)
    (k : K (.bool (jP d.bytes.length x)) H R) : CallsK Tryz.prog w0 121 #[dv A c A2 c2 d, opV A3 c3 x] H R K := by
  refine bV Tryz.func121 rfl Tryz.ntmps121 fI ?_
  repeat' (first | (refine dK rfl ?_; refine aT fA ?_; refine xP _ _ _ hI ⟨by omega, by omega⟩ ⟨by omega, by omega⟩ ?_; refine aB ?_) | (apply aF) | (apply aA) | (apply aV) | (apply bP) | (apply bF) | (apply aK; exact rfl) | (apply aJ; exact rfl) | (apply aH) | (apply aD) | (apply bN) | (apply bU) | (apply dQ) | (apply aP; exact rfl; ((first | refine aL (i := 0) rfl rfl rfl ?_ | refine aL (i := 1) rfl rfl rfl ?_)); refine aB ?_) | (apply aU; exact rfl; ((refine fZ rfl rfl (fun h => ?_) (fun h => ?_))) <;> (refine aB ?_)) | (refine aE rfl rfl ?_; ((first | refine aG ?_ | refine aY ?_ | refine bX rfl eR ?_ | refine cH rfl eR ?_ | refine aC rfl ?_ | refine bS rfl ?_)); refine aB ?_) | (refine cX rfl ?_; refine aB ?_) | (refine bJ rfl rfl ?_; ((refine dX cW (fun b => ?_))); refine aB ?_))
  all_goals
    refine aZ (.inl rfl) (dP rfl (bR rfl)) (cA H R (fun w hs => hs.weaken dB (fun _ h => h)) ?_)
    refine K_bool ?_ k
    (first | simp [jP, *]; done | (simp [jP, *]; rw [← List.length_eq_zero_iff]; omega))
theorem do1_k {w0 : World} {H : List Hp} {R : List MP} {K : Value → List Hp → List MP → Prop} (i bd : Nat) (A : Option Addr) (c : Nat) (A2 : Option Addr) (c2 : Nat) (A3 : Option Addr) (c3 : Nat) (d : Drive) (x : DO) (hi : H[i]? = some (.blk bd [.slice A d.bytes.length c, .slice A2 d.pending.length c2] 51))
    (hb : d.bytes.length ≤ 9223372036854775807) (hI : dO x.at_) (hl : x.data.length ≤ 9223372036854775807)
    (k : K (.bool (!jP d.bytes.length x)) H R) : CallsK Tryz.prog w0 120 #[opV A3 c3 x, .pointer (some ⟨bd, 0, none⟩)] H R K := by
  refine bV Tryz.func120 rfl Tryz.ntmps120 fI ?_
  repeat' (first | (refine aE rfl rfl ?_; refine aL (i := i + 1) rfl (by simpa using hi) rfl ?_; refine aB ?_) | (refine dK rfl ?_; refine aT fA ?_; refine right_k _ _ _ _ _ _ d x hb hI hl ?_; refine aB ?_) | (apply aF) | (apply aA) | (apply bP) | (apply aH) | (apply aD) | (apply aP; exact rfl; ((refine aL (i := 0) rfl rfl rfl ?_)); refine aB ?_) | (refine aE rfl rfl ?_; ((first | refine aY ?_ | refine dJ rfl ?_)); refine aB ?_) | (refine bJ rfl rfl ?_; ((refine dX cW (fun b => ?_))); refine aB ?_))
  refine aZ (.inl rfl) (dP rfl (bR rfl)) (cA H R (fun w hs => hs.weaken dB (fun _ h => h)) k)

theorem do1_k2 {w0 : World} {H : List Hp} {R : List MP} {K : Value → List Hp → List MP → Prop} (i bd : Nat) (A : Option Addr) (c : Nat) (A2 : Option Addr) (c2 : Nat) (A3 : Option Addr) (c3 : Nat) (d : Drive) (x : DO) (hi : H[i]? = some (.blk bd [.slice A d.bytes.length c, .slice A2 d.pending.length c2] 51))
    (hb : d.bytes.length ≤ 9223372036854775807) (hI : dO x.at_) (hl : x.data.length ≤ 9223372036854775807)
    (kt : jP d.bytes.length x = false → K (.bool true) H R) (kf : jP d.bytes.length x = true → K (.bool false) H R) : CallsK Tryz.prog w0 120 #[opV A3 c3 x, .pointer (some ⟨bd, 0, none⟩)] H R K := by
  refine do1_k i bd A c A2 c2 A3 c3 d x hi hb hI hl ?_
  cases h : jP d.bytes.length x
  · exact kt h
  · exact kf h
/-- The place of the first operation that is not right. -/
def qV (n : Nat) : List DO → Nat → Int
  | [], _ => -1
  | x :: l, i => if jP n x then qV n l (i + 1) else i
theorem qZ (n : Nat) : ∀ (l : List DO) (i : Nat), decide (0 ≤ qV n l i) = !l.all (jP n)
  | [], i => by simp [qV]
  | x :: l, i => by
    have ih := qZ n l (i + 1)
    cases h : jP n x <;> simp [qV, h]
    simpa using ih
theorem index_k {w0 : World} {H : List Hp} {R : List MP} {K : Value → List Hp → List MP → Prop} (i bd : Nat) (A : Option Addr) (c : Nat) (A2 : Option Addr) (c2 : Nat) (A3 : Option Addr) (c3 : Nat) (d : Drive) (l : List DO) (hi : H[i]? = some (.blk bd [.slice A d.bytes.length c, .slice A2 d.pending.length c2] 51))
    (hb : d.bytes.length ≤ 9223372036854775807) (hll : l.length ≤ 9223372036854775807) (hm : Sl (.slice A3 l.length c3) l ∈ R)
    (k : K (.int .i64 (qV d.bytes.length l 0)) H R) : CallsK Tryz.prog w0 151 #[.slice A3 l.length c3, .func (.func 120) #[] #[.pointer (some ⟨bd, 0, none⟩)]] H R K := by
  refine bV Tryz.func151 rfl Tryz.ntmps151 fI ?_
  repeat' (first | (apply aF) | (apply aA) | (apply aV) | (apply aH) | (apply aD) | (refine aE rfl rfl ?_; ((first | refine aG ?_ | refine aY ?_ | refine bS rfl ?_)); refine aB ?_))
  refine cM [4, 5, 8, 9, 10, 11, 12, 13, 14, 15, 16, 17, 18] (fun m j H' R' => H = H' ∧ R = R' ∧ ∃ q : Nat, q + m = l.length ∧ j 8 = .int .i64 q ∧ qV d.bytes.length l 0 = qV d.bytes.length (l.drop q) q) l.length eS ⟨rfl, rfl, 0, by omega, rfl, rfl⟩ ?_
  rintro m j H' R' ⟨hH, hR, q, hq, h8, hbad⟩
  subst hH; subst hR
  refine dD (by simp only [eF, List.foldl_cons, List.foldl_nil, List.set_cons_succ, List.set_cons_zero, h8]; rfl) ?_
  have HB := Go.Lib.hid hbad
  clear hbad
  repeat' (first | (refine dK rfl ?_; refine gO rfl fA ?_; refine do1_k2 i bd _ _ _ _ _ _ d _ hi hb hI2 hL (fun hB => ?_) (fun hB => ?_) <;> refine aB ?_) | (apply aF) | (apply aA) | (apply aV) | (apply bP) | (apply bF) | (apply cG) | (apply aK; exact rfl) | (apply aJ; exact rfl) | (apply aH) | (apply aD) | (apply bN) | (apply aW) | (apply bU) | (apply dQ) | (apply aS) | (apply aP; exact rfl; ((refine bD rfl cL rfl ?_)); refine aB ?_) | (apply aU; exact rfl; ((refine bM rfl rfl aO aO ?_)); refine aB ?_) | (apply aU; exact rfl; ((refine bQ rfl rfl (fun h => ?_) (fun h => ?_))) <;> (refine aB ?_)) | (apply gZ; exact rfl; ((refine gX eR rfl aX (List.getElem?_eq_getElem aO) (fun b o A c hI hI2 hL => ?_))); refine aB ?_) | (refine aE rfl rfl ?_; ((first | refine aG ?_ | refine aY ?_)); refine aB ?_))
  · refine aZ (.inl rfl) (dP rfl (bR rfl)) (cA H R (fun w hs => hs.weaken dB (fun p hp => by simp [hp])) ?_)
    refine qE ?_ k
    rw [HB.out, List.drop_eq_getElem_cons (show q < l.length by omega), qV, if_neg (by simp [hB])]
  · refine cJ (m - 1) _ R aO eS ⟨rfl, rfl, q + 1, by omega, rfl, ?_⟩ (fun w hs => hs.weaken dB (fun p hp => by simp [hp]))
    rw [HB.out, List.drop_eq_getElem_cons (show q < l.length by omega), qV, if_pos hB]
  · refine aZ (.inl rfl) (dP rfl (bR rfl)) (cA H R (fun w hs => hs) ?_)
    refine qE ?_ k
    rw [HB.out, List.drop_of_length_le aO]; rfl
theorem zA {w0 : World} {H : List Hp} {R : List MP} {K : Value → List Hp → List MP → Prop} (i bd : Nat) (A : Option Addr) (c : Nat) (A2 : Option Addr) (c2 : Nat) (A3 : Option Addr) (c3 : Nat) (d : Drive) (l : List DO) (hi : H[i]? = some (.blk bd [.slice A d.bytes.length c, .slice A2 d.pending.length c2] 51))
    (hb : d.bytes.length ≤ 9223372036854775807) (hll : l.length ≤ 9223372036854775807) (hm : Sl (.slice A3 l.length c3) l ∈ R)
    (kt : l.all (jP d.bytes.length) = false → K (.bool true) H R) (kf : l.all (jP d.bytes.length) = true → K (.bool false) H R) : CallsK Tryz.prog w0 119 #[.slice A3 l.length c3, .func (.func 120) #[] #[.pointer (some ⟨bd, 0, none⟩)]] H R K := by
  have hbad := qZ d.bytes.length l 0
  refine bV Tryz.func119 rfl Tryz.ntmps119 fI ?_
  repeat' (first | (refine dK rfl ?_; refine aT fA ?_; refine index_k i bd _ _ _ _ _ _ d _ hi hb hll hm ?_; refine aB ?_) | (apply aF) | (apply aA) | (apply bP) | (apply aH) | (apply aD) | (apply aU; exact rfl; ((refine jS rfl rfl (fun h => ?_) (fun h => ?_))) <;> (refine aB ?_)) | (refine aE rfl rfl ?_; ((first | refine aG ?_ | refine aY ?_)); refine aB ?_))
  · refine aZ (.inl rfl) (dP rfl (bR rfl)) (cA H R (fun w hs => hs) (kt ?_))
    rw [decide_eq_true aO] at hbad
    simpa using hbad.symm
  · refine aZ (.inl rfl) (dP rfl (bR rfl)) (cA H R (fun w hs => hs) (kf ?_))
    rw [decide_eq_false aO] at hbad
    simpa using hbad.symm
end Go.Proofs.YtggdljhmbckpmaaGreat
namespace Go.Proofs.YtggdljhmbckpmaaGreat
open Go Go.RowKit
set_option maxRecDepth 100000
set_option maxHeartbeats 800000

/-- Bytes and an errno are returned, the bytes for good. -/
def KB (K : Value → List Hp → List MP → Prop) (r : List UInt8 × Int) (H : List Hp) (R : List MP) : Prop := ∀ A c, K (.tuple #[.slice A r.1.length c, .int .i64 r.2]) H (Sl (.slice A r.1.length c) r.1 :: R)
theorem uQ {K : Value → List Hp → List MP → Prop} {r r' : List UInt8 × Int} {H : List Hp} {R : List MP} (e : r = r') (h : KB K r H R) : KB K r' H R := e ▸ h
structure Rc where
  at_ : Nat
  epoch : Nat
  seq : Nat
  data : List UInt8
abbrev rcV (A : Option Addr) (c : Nat) (r : Rc) : Value := .agg #[.int .i64 (r.at_ : Int), .int .i64 (r.epoch : Int), .int .i64 (r.seq : Int), .slice A r.data.length c]
def Rc.stop (r : Rc) : Nat := r.at_ + 21 + r.data.length
theorem end_k {w0 : World} {H : List Hp} {R : List MP} {K : Value → List Hp → List MP → Prop} (A : Option Addr) (c : Nat) (r : Rc) (hb : r.stop ≤ 1000000000)
    (k : K (.int .i64 (r.stop : Nat)) H R) : CallsK Tryz.prog w0 56 #[rcV A c r] H R K := by
  unfold Rc.stop at *
  refine bV Tryz.func56 rfl Tryz.ntmps56 fI ?_
  repeat' (first | (apply aF) | (apply aA) | (apply bP) | (apply aH) | (apply aD) | (apply aP; exact rfl; ((refine aL (i := 0) rfl rfl rfl ?_)); refine aB ?_) | (apply aU; exact rfl; ((refine bM rfl rfl aO aO ?_)); refine aB ?_) | (refine aE rfl rfl ?_; ((first | refine aY ?_ | refine aC rfl ?_ | refine bS rfl ?_)); refine aB ?_) | (refine bJ rfl rfl ?_; ((refine dX cW (fun b => ?_))); refine aB ?_))
  refine aZ (.inl rfl) (dP rfl (bR rfl)) (cA H R r4 ?_)
  exact qE dB k
theorem m6 {w0 : World} {H : List Hp} {R : List MP} {K : Value → List Hp → List MP → Prop} (A : Option Addr) (m c : Nat) (xs : List UInt8) (hml : m = xs.length) (h4 : 4 ≤ xs.length) (hb : xs.length ≤ 9223372036854775807) (hm : Sl (.slice A m c) xs ∈ R)
    (k : K (.int .u32 (eN xs : Nat)) H R) : CallsK Tryz.prog w0 155 #[.slice A m c] H R K := by
  subst hml; exact fourOf_k A c xs h4 hb hm k
theorem yL {w0 : World} {H : List Hp} {R : List MP} {K : Value → List Hp → List MP → Prop} (A : Option Addr) (m c : Nat) (xs : List UInt8) (hml : m = xs.length) (hb : xs.length ≤ 9223372036854775807) (hm : Sl (.slice A m c) xs ∈ R)
    (k : K (.int .u32 (jU xs : Nat)) H R) : CallsK Tryz.prog w0 115 #[.slice A m c] H R K := by
  subst hml; exact sum_k A c xs hb hm k
theorem oE {w0 : World} {H : List Hp} {R : List MP} {K : Value → List Hp → List MP → Prop} (i j b1 b2 : Nat) (A : Option Addr) (c : Nat) (xs : List UInt8) (at_ n : Nat) (hi : H[i]? = some (.blk b1 [.slice A xs.length c] 33)) (hj : H[j]? = some (.blk b2 [.int .i64 (at_ : Int)] 3))
    (hb : xs.length ≤ 600000) (hn : at_ + n + 4 ≤ xs.length) (hm : Sl (.slice A xs.length c) xs ∈ R)
    (k : K (.int .u32 (eN (xs.drop (at_ + n)) : Nat)) H R) : CallsK Tryz.prog w0 154 #[.int .i64 (n : Int), .pointer (some ⟨b1, 0, none⟩), .pointer (some ⟨b2, 0, none⟩)] H R K := by
  refine bV Tryz.func154 rfl Tryz.ntmps154 fI ?_
  repeat' (first | (refine aE rfl rfl ?_; refine aL (i := i) rfl hi rfl ?_; refine aB ?_) | (refine aE rfl rfl ?_; refine aL (i := j) rfl hj rfl ?_; refine aB ?_) | (refine aE rfl rfl ?_; refine fY rfl hm rfl rfl rfl rfl aO aO aO (fun A8 c8 => ?_); refine aB ?_) | (apply aF) | (apply aA) | (apply aH) | (apply aD) | (apply aU; exact rfl; ((refine bM rfl rfl aO aO ?_)); refine aB ?_) | (refine aE rfl rfl ?_; ((first | refine aG ?_ | refine aY ?_)); refine aB ?_))
  have hl : ((xs.take (xs.length : Int).toNat).drop ((at_ : Int) + (n : Int)).toNat) = xs.drop (at_ + n) := by
    rw [show ((at_ : Int) + (n : Int)).toNat = at_ + n by omega, Int.toNat_natCast, List.take_length]
  repeat' (first | (refine dK rfl ?_; refine aT fA ?_; refine m6 _ _ _ ((xs.take (xs.length : Int).toNat).drop ((at_ : Int) + (n : Int)).toNat) dB (by rw [hl]; simp; omega) (by rw [hl]; simp; omega) aX ?_; refine aB ?_) | (apply bP) | (apply aH) | (apply aD) | (refine aE rfl rfl ?_; ((refine aY ?_)); refine aB ?_))
  refine aZ (.inl rfl) (dP rfl (bR rfl)) (cA H R dV ?_)
  rw [hl]; exact k
end Go.Proofs.YtggdljhmbckpmaaGreat
