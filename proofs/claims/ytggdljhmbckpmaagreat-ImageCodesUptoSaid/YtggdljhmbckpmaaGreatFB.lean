/- The functions of package image on drives: walks. What a drive has: walks. Drives: NewDrive, right, and the search for what is not right: walks. Read; records: their ends, their words: walks. -/
import Derived.Test.YtggdljhmbckpmaaGreatFA
import Derived.Test.YtggdljhmbckpmaaGreatAM
set_option linter.unusedVariables false
set_option linter.unusedSimpArgs false
namespace Go.Proofs.YtggdljhmbckpmaaGreat
open Go Go.RowKit
set_option maxRecDepth 100000
set_option maxHeartbeats 800000

def jY (at_ n size : Int) : Bool := decide (0 ≤ at_ ∧ at_ ≤ size ∧ n ≤ size - at_)
theorem vH {w0 : World} {H : List Hp} {R : List MP} {K : Value → List Hp → List MP → Prop} (a n s : Int) (ha : dD a) (hn : 0 ≤ n ∧ n ≤ 9223372036854775807) (hs : 0 ≤ s ∧ s ≤ 9223372036854775807)
    (k : K (.bool (jY a n s)) H R) : CallsK Tryz.prog w0 112 #[.int .i64 a, .int .i64 n, .int .i64 s] H R K := by
  unfold jY at k
  unfold dD at ha
  refine bX Tryz.func112 rfl Tryz.ntmps112 eZ ?_
  repeat' (first | (apply aF) | (apply aA) | (apply bN) | (apply aG) | (apply aD) | (apply aU; exact rfl; ((refine eR rfl rfl (by omega) (by omega) ?_)); refine aB ?_) | (apply aU; exact rfl; ((first | refine mM rfl rfl (fun h => ?_) (fun h => ?_) | refine jJ rfl rfl (fun h => ?_) (fun h => ?_))) <;> (refine aB ?_)) | (refine aE rfl rfl ?_; ((first | refine aH ?_ | refine aX ?_ | refine bT rfl eJ ?_ | refine cI rfl eJ ?_)); refine aB ?_) | (refine cR rfl ?_; refine aB ?_))
  all_goals
    refine bC (.inl rfl) (dM rfl (bS rfl)) (cG H R (fun _ h => h) ?_)
    (first | (rw [decide_eq_false (by omega)] at k; exact k) | (rw [decide_eq_true (by omega)] at k; exact k))

theorem yQ {w0 : World} {H : List Hp} {R : List MP} {K : Value → List Hp → List MP → Prop} (a n s : Int) (ha : dD a) (hn : 0 ≤ n ∧ n ≤ 9223372036854775807) (hs : 0 ≤ s ∧ s ≤ 9223372036854775807)
    (kt : jY a n s = true → K (.bool true) H R) (kf : jY a n s = false → K (.bool false) H R) : CallsK Tryz.prog w0 112 #[.int .i64 a, .int .i64 n, .int .i64 s] H R K := by
  refine vH a n s ha hn hs ?_
  cases h : jY a n s
  · exact kf h
  · exact kt h

abbrev dv (A : Option Addr) (c : Nat) (A2 : Option Addr) (c2 : Nat) (d : Drive) : Value := .agg #[.slice A d.bytes.length c, .slice A2 d.pending.length c2]
def wOk (n : Nat) (w : DW) : Bool := jY w.at_ (w.data.length : Int) (n : Int)
def eM (d : Drive) : Bool := decide (64 ≤ d.bytes.length) && decide (d.bytes.length ≤ 600000) && decide (d.bytes.length % 2 = 0) && decide (d.pending.length ≤ 100) && d.pending.all (wOk d.bytes.length)
def jL (d : Drive) : Int := if eM d then 0 else 301
theorem errD_no {d : Drive} (h : ¬ (64 ≤ d.bytes.length ∧ d.bytes.length ≤ 600000 ∧ d.bytes.length % 2 = 0 ∧ d.pending.length ≤ 100)) : jL d = 301 := by
  unfold jL eM
  rw [if_neg]
  simp only [Bool.and_eq_true, decide_eq_true_eq]
  intro hh
  exact h ⟨hh.1.1.1.1, hh.1.1.1.2, hh.1.1.2, hh.1.2⟩
theorem errD_w {d : Drive} {i : Nat} (hi : i < d.pending.length) (h : wOk d.bytes.length d.pending[i] = false) : jL d = 301 := by
  unfold jL eM
  rw [if_neg]
  simp only [Bool.and_eq_true]
  intro hh
  have := List.all_eq_true.1 hh.2 _ (List.getElem_mem hi)
  rw [h] at this; cases this
theorem zV {d : Drive} (h : 64 ≤ d.bytes.length ∧ d.bytes.length ≤ 600000 ∧ d.bytes.length % 2 = 0 ∧ d.pending.length ≤ 100) (hw : ∀ i (hi : i < d.pending.length), wOk d.bytes.length d.pending[i] = true) : jL d = 0 := by
  unfold jL eM
  rw [if_pos]
  simp only [Bool.and_eq_true, decide_eq_true_eq]
  refine ⟨⟨⟨⟨h.1, h.2.1⟩, h.2.2.1⟩, h.2.2.2⟩, List.all_eq_true.2 fun w hw' => ?_⟩
  obtain ⟨i, hi, rfl⟩ := List.mem_iff_getElem.1 hw'
  exact hw i hi
theorem sN {K : Value → List Hp → List MP → Prop} {k : IntKind} {H : List Hp} {R : List MP} {a b : Int} (h : a = b) (hk : K (.int k b) H R) : K (.int k a) H R := h ▸ hk



theorem pI {w0 : World} {H : List Hp} {R : List MP} {K : Value → List Hp → List MP → Prop} (A : Option Addr) (c : Nat) (A2 : Option Addr) (c2 : Nat) (d : Drive) (hb : d.bytes.length ≤ 9223372036854775807) (hp : d.pending.length ≤ 9223372036854775807)
    (hm : Sl (.slice A d.bytes.length c) d.bytes ∈ R) (hm2 : Sl (.slice A2 d.pending.length c2) d.pending ∈ R)
    (k : K (.int .i64 (jL d)) H R) : CallsK Tryz.prog w0 53 #[dv A c A2 c2 d] H R K := by
  refine bX Tryz.func53 rfl Tryz.ntmps53 eZ ?_
  repeat' (first | (apply aF) | (apply aA) | (apply aT) | (apply bN) | (apply bE) | (apply aK; exact rfl) | (apply aI; exact rfl) | (apply aG) | (apply aD) | (apply bO) | (apply aP; exact rfl; ((refine aM (i := 0) rfl rfl rfl ?_)); refine aB ?_) | (apply aU; exact rfl; ((refine mD rfl rfl (by omega) (by omega) ?_)); refine aB ?_) | (apply aU; exact rfl; ((first | refine bM rfl rfl (fun h => ?_) (fun h => ?_) | refine fF rfl rfl (fun h => ?_) (fun h => ?_) | refine fS rfl rfl (fun h => ?_) (fun h => ?_))) <;> (refine aB ?_)) | (refine aE rfl rfl ?_; ((first | refine aH ?_ | refine aX ?_ | refine bT rfl eJ ?_ | refine cI rfl eJ ?_ | refine aC rfl ?_ | refine bQ rfl ?_)); refine aB ?_) | (refine cR rfl ?_; refine aB ?_) | (refine bG rfl rfl ?_; ((refine eB cW (fun b => ?_))); refine aB ?_))
  iterate 4
    · refine bC (.inl rfl) (dM rfl (bS rfl)) (cG H R (fun w hs => hs.weaken (List.sublist_cons_self _ _) (fun p hp => hp)) ?_)
      exact sN (errD_no (by omega)).symm k
  have hlen : 64 ≤ d.bytes.length ∧ d.bytes.length ≤ 600000 ∧ d.bytes.length % 2 = 0 ∧ d.pending.length ≤ 100 := by omega
  refine cK [2, 5, 29, 30, 31, 32, 33, 34, 35, 36, 37, 38, 39, 40, 41] (fun m j H' R' => .blk b [.slice A d.bytes.length c, .slice A2 d.pending.length c2] 51 :: H = H' ∧ R = R' ∧ ∃ i : Nat, i + m = d.pending.length ∧ j 29 = .int .i64 i ∧ ∀ l (hl : l < d.pending.length), l < i → wOk d.bytes.length d.pending[l] = true) d.pending.length eE ⟨rfl, rfl, 0, by omega, rfl, fun l hl h => by omega⟩ ?_
  rintro m j H' R' ⟨hH, hR, i, hi, h29, hall⟩
  subst hH; subst hR
  refine cQ (by simp only [dX, List.foldl_cons, List.foldl_nil, List.set_cons_succ, List.set_cons_zero, *]; rfl) ?_
  have HA := Go.Lib.hid hall
  clear hall
  repeat' (first | (refine dS rfl ?_; refine aY fA ?_; refine yQ _ _ _ hI ⟨by omega, by omega⟩ ⟨by omega, by omega⟩ (fun hB => ?_) (fun hB => ?_) <;> refine aB ?_) | (apply aF) | (apply aA) | (apply aT) | (apply bN) | (apply bE) | (apply bV) | (apply aK; exact rfl) | (apply aI; exact rfl) | (apply aG) | (apply aD) | (apply bO) | (apply aS) | (apply bP) | (apply dO) | (apply aR) | (apply aP; exact rfl; ((first | refine aM (i := 0) rfl rfl rfl ?_ | refine aZ rfl cJ rfl ?_)); refine aB ?_) | (apply aU; exact rfl; ((refine bI rfl rfl (by omega) (by omega) ?_)); refine aB ?_) | (apply aU; exact rfl; ((refine bM rfl rfl (fun h => ?_) (fun h => ?_))) <;> (refine aB ?_)) | (apply gL; exact rfl; ((refine kH eJ rfl aV (List.getElem?_eq_getElem (by omega)) (fun b o A c hI hL => ?_))); refine aB ?_) | (apply bD; exact rfl; ((refine aO (i := 0) rfl cW rfl (by rfl) (by simp) (by simp [Value.oneCell']) ?_)); refine aB ?_; refine cA ?_) | (refine aE rfl rfl ?_; ((first | refine aH ?_ | refine aX ?_ | refine aC rfl ?_ | refine bQ rfl ?_ | refine dE rfl ?_)); refine aB ?_) | (refine bG rfl rfl ?_; ((refine bK cW (fun b => ?_))); refine aB ?_))
  · refine cE (m - 1) _ R (by omega) eE ⟨rfl, rfl, i + 1, by omega, rfl, fun l hl h => ?_⟩ (fun w hs => hs.weaken (by simp) (fun p hp => by simp [hp]))
    by_cases e : l = i
    · subst e; exact hB
    · exact HA.out l hl (by omega)
  · refine bC (.inl rfl) (dM rfl (bS rfl)) (cG H R (fun w hs => hs.weaken (by simp) (fun p hp => by simp [hp])) ?_)
    exact sN (errD_w (by omega) hB).symm k
  · refine bC (.inl rfl) (dM rfl (bS rfl)) (cG H R (fun w hs => hs.weaken (by simp) (fun p hp => hp)) ?_)
    exact sN (zV hlen (fun l hl => HA.out l hl (by omega))).symm k
end Go.Proofs.YtggdljhmbckpmaaGreat
namespace Go.Proofs.YtggdljhmbckpmaaGreat
open Go Go.RowKit
set_option maxRecDepth 100000
set_option maxHeartbeats 800000

def uJ (xs : List UInt8) (a : Nat) (ys : List UInt8) : List UInt8 := xs.take a ++ ys ++ xs.drop (a + ys.length)
def iO (d : Drive) : List UInt8 := d.pending.foldl (fun xs w => uJ xs w.at_.toNat w.data) d.bytes
theorem lH (xs : List UInt8) (a : Nat) (ys : List UInt8) (h : a + ys.length ≤ xs.length) : (uJ xs a ys).length = xs.length := by
  simp [uJ]; omega
theorem sG (xs : List UInt8) (a : Nat) (ys : List UInt8) (sp : List Value) (h : a + ys.length ≤ xs.length) : fR (bA xs ++ sp) a (bA ys) = bA (uJ xs a ys) ++ sp := by
  simp only [fR, uJ, fE]
  have h1 : (bA xs ++ sp).take a = bA (xs.take a) := by
    rw [List.take_append_of_le_length (by simp; omega)]; simp [bA, List.map_take]
  have h2 : (bA xs ++ sp).drop (a + (bA ys).length) = bA (xs.drop (a + ys.length)) ++ sp := by
    rw [List.drop_append_of_le_length (by simp; omega)]; simp [bA, List.map_drop]
  rw [h1, h2]; simp
theorem kW (xs ys : List UInt8) (sp : List Value) (a dn o' : Nat) (hdn : dn = xs.length - a) (ho : dn = 0 ∨ o' = 0 + a * 1) (h : a + ys.length ≤ xs.length) : fR (bA xs ++ sp) o' (bA (ys.take dn)) = bA (uJ xs a ys) ++ sp := by
  rw [List.take_of_length_le (show ys.length ≤ dn by omega)]
  rcases ho with ho | ho
  · have hy : ys = [] := List.eq_nil_of_length_eq_zero (by omega)
    subst hy
    have e : fR (bA xs ++ sp) o' (bA []) = bA xs ++ sp := by simp [fR, bA]
    rw [e]
    simp [uJ]
  · have : o' = a := by omega
    subst this
    exact sG xs o' ys sp h
theorem pG {a : Int} {n s : Nat} (h : jY a (n : Int) (s : Int) = true) : 0 ≤ a ∧ a.toNat + n ≤ s := by
  unfold jY at h
  have := of_decide_eq_true h
  omega
theorem gQ {d : Drive} (h : eM d = true) : 64 ≤ d.bytes.length ∧ d.bytes.length ≤ 600000 ∧ d.bytes.length % 2 = 0 ∧ d.pending.length ≤ 100 ∧ ∀ i (hi : i < d.pending.length), 0 ≤ d.pending[i].at_ ∧ d.pending[i].at_.toNat + d.pending[i].data.length ≤ d.bytes.length := by
  unfold eM at h
  simp only [Bool.and_eq_true, decide_eq_true_eq] at h
  obtain ⟨⟨⟨⟨h1, h2⟩, h3⟩, h4⟩, h5⟩ := h
  refine ⟨h1, h2, h3, h4, fun i hi => ?_⟩
  have := List.all_eq_true.1 h5 _ (List.getElem_mem hi)
  exact pG this
theorem mA (n : Nat) : ∀ (ws : List DW) (xs : List UInt8), xs.length = n → (∀ w ∈ ws, w.at_.toNat + w.data.length ≤ n) → (ws.foldl (fun xs w => uJ xs w.at_.toNat w.data) xs).length = n
  | [], xs, h, _ => h
  | w :: ws, xs, h, hw => mA n ws _ (by rw [lH _ _ _ (by rw [h]; exact hw w (by simp))]; exact h) (fun w' hw' => hw w' (by simp [hw']))
theorem gR {d : Drive} (h : eM d = true) : (iO d).length = d.bytes.length := by
  obtain ⟨_, _, _, _, hw⟩ := gQ h
  refine mA _ _ _ rfl fun w hw' => ?_
  obtain ⟨i, hi, rfl⟩ := List.mem_iff_getElem.1 hw'
  exact (hw i hi).2

theorem wX {w0 : World} {H : List Hp} {R : List MP} {K : Value → List Hp → List MP → Prop} (A : Option Addr) (c : Nat) (A2 : Option Addr) (c2 : Nat) (d : Drive) (hd : eM d = true)
    (hm : Sl (.slice A d.bytes.length c) d.bytes ∈ R) (hm2 : Sl (.slice A2 d.pending.length c2) d.pending ∈ R)
    (k : ∀ v, K v (.row v 5 1 (iO d).length (bA (iO d)) :: H) R) : CallsK Tryz.prog w0 54 #[dv A c A2 c2 d] H R K := by
  obtain ⟨h64, hmax, hmod, h100, hw⟩ := gQ hd
  rw [gR hd] at k
  have HW := Go.Lib.hid hw
  clear hw
  refine bX Tryz.func54 rfl Tryz.ntmps54 eZ ?_
  repeat' (first | (refine dS rfl ?_; refine aY fA ?_; refine nA _ _ _ (by omega) aV (fun v => ?_); refine aB ?_) | (apply aF) | (apply aA) | (apply aT) | (apply aG) | (apply aD) | (apply aP; exact rfl; ((first | refine aM (i := 0) rfl rfl rfl ?_ | refine aM (i := 1) rfl rfl rfl ?_)); refine aB ?_) | (refine aE rfl rfl ?_; ((first | refine aH ?_ | refine aX ?_ | refine aC rfl ?_ | refine bQ rfl ?_)); refine aB ?_) | (refine bG rfl rfl ?_; ((refine eB cW (fun b => ?_))); refine aB ?_))
  refine tY 0 rfl (by omega) (fun b' cap sp hv hl1 hl2 hcap hcapm => ?_)
  subst hv
  refine iI rZ ?_
  refine cK [5, 12, 13, 14, 15, 16, 17, 18, 19, 20, 21, 22, 23] (fun m j H' R' => R = R' ∧ ∃ i : Nat, i + m = d.pending.length ∧ j 12 = .int .i64 i ∧ ∃ cur : List UInt8, cur.length = d.bytes.length ∧ cur = (d.pending.take i).foldl (fun xs w => uJ xs w.at_.toNat w.data) d.bytes ∧
    (.blk b' (bA cur ++ sp) 5 :: .blk b [.slice A d.bytes.length c, .slice A2 d.pending.length c2] 51 :: H) = H') d.pending.length eE ⟨rfl, 0, by omega, rfl, d.bytes, rfl, rfl, rfl⟩ ?_
  rintro m j H' R' ⟨hR, i, hi, h12, cur, hcl, hcur, hH⟩
  subst hH; subst hR
  have HC := Go.Lib.hid hcur
  clear hcur
  refine cQ (by simp only [dX, List.foldl_cons, List.foldl_nil, List.set_cons_succ, List.set_cons_zero, h12]; rfl) ?_
  repeat' (first | (apply aF) | (apply aA) | (apply aT) | (apply bN) | (apply bE) | (apply bV) | (apply aK; exact rfl) | (apply aI; exact rfl) | (apply aG) | (apply aD) | (apply aS) | (apply aR) | (apply aP; exact rfl; ((refine aZ rfl cJ rfl ?_)); refine aB ?_) | (apply aU; exact rfl; ((refine bM rfl rfl (fun h => ?_) (fun h => ?_))) <;> (refine aB ?_)) | (apply gL; exact rfl; ((refine kH eJ rfl aV (List.getElem?_eq_getElem (by omega)) (fun b o A c hI hL => ?_))); refine aB ?_) | (apply bD; exact rfl; ((refine aO (i := 0) rfl cW rfl (by rfl) (by simp) (by simp [Value.oneCell']) ?_)); refine aB ?_; refine cA ?_) | (refine aE rfl rfl ?_; ((first | refine aH ?_ | refine aX ?_)); refine aB ?_) | (refine bG rfl rfl ?_; ((refine bK cW (fun b => ?_))); refine aB ?_))
  · have hwi : 0 ≤ d.pending[i].at_ ∧ d.pending[i].at_.toNat + d.pending[i].data.length ≤ d.bytes.length := HW.out i (by omega)
    refine dQ eT (by decide +kernel) (fun _ _ _ _ _ _ h => h) (List.Sublist.cons_cons _ (List.Sublist.cons _ (List.Sublist.refl _))) ?_
    all_goals ((refine bR 0 (List.Sublist.cons_cons _ (List.Sublist.cons _ (List.Sublist.refl _))) ?_; ((refine aH ?_)); refine aJ ?_))
    all_goals ((refine bR 1 (List.Sublist.cons_cons _ (List.Sublist.cons _ (List.Sublist.refl _))) ?_; ((refine aC rfl ?_)); refine aJ ?_))
    all_goals ((refine bR 2 (List.Sublist.cons_cons _ (List.Sublist.cons _ (List.Sublist.refl _))) ?_; ((refine aM (i := 0) rfl rfl rfl ?_)); refine aJ ?_))
    all_goals ((refine bR 3 (List.Sublist.cons_cons _ (List.Sublist.cons _ (List.Sublist.refl _))) ?_; ((refine iP rfl rfl rfl (by omega) (by omega) (by omega) (fun o' ho' => ?_))); refine aJ ?_))
    all_goals ((refine bR 4 (List.Sublist.cons_cons _ (List.Sublist.cons _ (List.Sublist.refl _))) ?_; ((refine aC rfl ?_)); refine aJ ?_))
    all_goals ((refine bR 5 (List.Sublist.cons_cons _ (List.Sublist.cons _ (List.Sublist.refl _))) ?_; ((refine aM (i := 0) rfl rfl rfl ?_)); refine aJ ?_))
    -- left: [6]; ready: [6]: ['call copy']
    refine lL 6 ?_
    refine pJ (i := 1) rfl rfl aV rfl (fun h => by simp; omega) ?_
    refine ⟨.inl (fun w hs => hs.weaken (by simp) (fun p hp => hp)), ?_⟩
    refine jO (by decide +kernel) ?_
    repeat' (first | (apply aA) | (apply aG) | (apply aD) | (apply bP) | (apply aU; exact rfl; ((refine bI rfl rfl (by omega) (by omega) ?_)); refine aB ?_) | (refine aE rfl rfl ?_; ((refine aH ?_)); refine aB ?_))
    refine cE (m - 1) (.blk b' (bA (uJ cur d.pending[i].at_.toNat d.pending[i].data) ++ sp) 5 :: _) R (by omega) eE ⟨rfl, i + 1, by omega, rfl, uJ cur d.pending[i].at_.toNat d.pending[i].data, by rw [lH _ _ _ (by omega)]; exact hcl, ?_, rfl⟩ (fun w hs => ?_)
    · rw [HC.out, List.take_succ_eq_append_getElem (by omega), List.foldl_append, List.foldl_cons, List.foldl_nil]
    · have e := kW cur d.pending[i].data sp d.pending[i].at_.toNat ((d.bytes.length : Int).toNat - d.pending[i].at_.toNat) o' (by simp [hcl]) ho' (by omega)
      rw [e] at hs
      exact hs.weaken (by simp) (fun p hp => by simp [hp])
  · refine bC (.inl rfl) (dM rfl (bS rfl)) (cG (.row (.slice (some ⟨b', 0, none⟩) d.bytes.length cap) 5 1 d.bytes.length (bA (iO d)) :: H) R (fun w hs => ?_) (k _))
    have hc2 : cur = iO d := by
      rw [HC.out, List.take_of_length_le (by omega)]; rfl
    rw [hc2] at hs
    have h1 := hs.torow (i := 0) (n := d.bytes.length) (cap := cap) (size := 1) rfl (by rw [← hl1]; simp [gR hd]) (by simp [gR hd]) hcap hcapm
    exact h1.weaken (by simp) (fun p hp => hp)
end Go.Proofs.YtggdljhmbckpmaaGreat
namespace Go.Proofs.YtggdljhmbckpmaaGreat
open Go Go.RowKit
set_option maxRecDepth 100000
set_option maxHeartbeats 800000

abbrev iC (A : Option Addr) (c : Nat) (A2 : Option Addr) (c2 : Nat) (d : Drive) (R : List MP) : List MP := Sl (.slice A d.bytes.length c) d.bytes :: Sl (.slice A2 d.pending.length c2) d.pending :: R
/-- A drive and an errno are returned, the drive for good. -/
def KD (K : Value → List Hp → List MP → Prop) (r : Drive × Int) (H : List Hp) (R : List MP) : Prop := ∀ A c A2 c2, K (.tuple #[dv A c A2 c2 r.1, .int .i64 r.2]) H (iC A c A2 c2 r.1 R)
theorem qD {K : Value → List Hp → List MP → Prop} {r r' : Drive × Int} {H : List Hp} {R : List MP} (e : r = r') (h : KD K r H R) : KD K r' H R := e ▸ h
theorem pB {w0 w : World} {H : List Hp} {R : List MP} (h : S w0 w H R) : S w0 w H (iC none 0 none 0 ⟨[], []⟩ R) := (h.sl_nil DW).sl_nil UInt8

def e9 (n : Int) : Drive × Int := if n < 64 ∨ 600000 < n ∨ n % 2 = 1 then (⟨[], []⟩, 1) else (⟨List.replicate n.toNat 0, []⟩, 0)
theorem vR (n : Nat) : bA (List.replicate n 0) = List.replicate n (.int .u8 0) := by simp [bA, eP]
theorem rM {w0 : World} {H : List Hp} {R : List MP} {K : Value → List Hp → List MP → Prop} (n : Int) (hI : dD n) (k : KD K (e9 n) H R) : CallsK Tryz.prog w0 25 #[.int .i64 n] H R K := by
  unfold dD at hI
  refine bX Tryz.func25 rfl Tryz.ntmps25 eZ ?_
  repeat' (first | (apply aF) | (apply aA) | (apply bN) | (apply bE) | (apply aK; exact rfl) | (apply aI; exact rfl) | (apply aG) | (apply aD) | (apply bO) | (apply aU; exact rfl; ((refine mD rfl rfl (by omega) (by omega) ?_)); refine aB ?_) | (apply aU; exact rfl; ((first | refine bM rfl rfl (fun h => ?_) (fun h => ?_) | refine fF rfl rfl (fun h => ?_) (fun h => ?_) | refine fS rfl rfl (fun h => ?_) (fun h => ?_))) <;> (refine aB ?_)) | (apply bD; exact rfl; ((refine aO (i := 0) rfl cW rfl (by rfl) (by simp) (by simp [Value.oneCell']) ?_)); refine aB ?_; refine cA ?_) | (refine aE rfl rfl ?_; ((first | refine aH ?_ | refine aX ?_ | refine bT rfl eJ ?_ | refine cI rfl eJ ?_ | refine dN gI ?_)); refine aB ?_) | (refine cR rfl ?_; refine aB ?_) | (refine bG rfl rfl ?_; ((refine bK cW (fun b => ?_))); refine aB ?_))
  iterate 3
    · refine bC (.inl rfl) (jM rfl (dG (i := 0) rfl rfl rfl) (bS rfl)) (cG H _ (fun w hs => pB (hs.weaken (by simp) (fun _ h => h))) ?_)
      exact qD (r' := (⟨[], []⟩, 1)) (by unfold e9; rw [if_pos (by omega)]) k none 0 none 0
  obtain ⟨m, rfl⟩ : ∃ m : Nat, n = m := ⟨n.toNat, by omega⟩
  refine bG rfl rfl ?_
  refine t6 (n := m) rfl rfl (by omega) (by omega) (fun b' => ?_)
  refine aB ?_
  repeat' (first | (apply bN) | (apply aG) | (apply aD) | (apply bD; exact rfl; ((refine aO (i := 1) rfl cW rfl (by rfl) (by simp) (by simp [Value.oneCell']) ?_)); refine aB ?_; refine cA ?_) | (refine aE rfl rfl ?_; ((first | refine aX ?_ | refine dN gI ?_)); refine aB ?_))
  have k' := qD (r' := (⟨List.replicate m 0, []⟩, 0)) (by unfold e9; rw [if_neg (by omega)]; simp) k (some ⟨b', 0, none⟩) m none 0
  simp only [dv, iC, List.length_replicate, List.length_nil] at k'
  refine bC (.inl rfl) (jM rfl (dG (i := 1) rfl rfl rfl) (bS rfl)) (cG H _ (fun w hs => ?_) k')
  rw [← vR] at hs
  have h2 := hs.bytes_stay (i := 0) (n := m) (c := m) rfl (by simp) (by omega) (by simp only [dY]; omega)
  exact ((h2.sl_nil DW).weaken (by simp) (fun p hp => by
    simp only [List.mem_cons] at hp ⊢
    rcases hp with hp | hp | hp
    · exact .inr (.inl hp)
    · exact .inl hp
    · exact .inr (.inr hp)))

def iJ (n : Nat) (x : DO) : Bool := if x.kind = 1 then jY x.at_ (x.data.length : Int) (n : Int) else if x.kind = 2 then decide (x.at_ = 0 ∧ x.data.length = 0) else false
abbrev opV (A : Option Addr) (c : Nat) (x : DO) : Value := .agg #[.int .i64 x.kind, .int .i64 x.at_, .slice A x.data.length c]
theorem aA6 {w0 : World} {H : List Hp} {R : List MP} {K : Value → List Hp → List MP → Prop} (A : Option Addr) (c : Nat) (A2 : Option Addr) (c2 : Nat) (A3 : Option Addr) (c3 : Nat) (d : Drive) (x : DO) (hb : d.bytes.length ≤ 9223372036854775807) (hI : dD x.at_) (hl : x.data.length ≤ 9223372036854775807)
    (k : K (.bool (iJ d.bytes.length x)) H R) : CallsK Tryz.prog w0 121 #[dv A c A2 c2 d, opV A3 c3 x] H R K := by
  refine bX Tryz.func121 rfl Tryz.ntmps121 eZ ?_
  repeat' (first | (refine dS rfl ?_; refine aY fA ?_; refine vH _ _ _ hI ⟨by omega, by omega⟩ ⟨by omega, by omega⟩ ?_; refine aB ?_) | (apply aF) | (apply aA) | (apply aT) | (apply bN) | (apply bE) | (apply aK; exact rfl) | (apply aI; exact rfl) | (apply aG) | (apply aD) | (apply bO) | (apply bP) | (apply dO) | (apply aP; exact rfl; ((first | refine aM (i := 0) rfl rfl rfl ?_ | refine aM (i := 1) rfl rfl rfl ?_)); refine aB ?_) | (apply aU; exact rfl; ((refine fS rfl rfl (fun h => ?_) (fun h => ?_))) <;> (refine aB ?_)) | (refine aE rfl rfl ?_; ((first | refine aH ?_ | refine aX ?_ | refine bT rfl eJ ?_ | refine cI rfl eJ ?_ | refine aC rfl ?_ | refine bQ rfl ?_)); refine aB ?_) | (refine cR rfl ?_; refine aB ?_) | (refine bG rfl rfl ?_; ((refine eB cW (fun b => ?_))); refine aB ?_))
  all_goals
    refine bC (.inl rfl) (dM rfl (bS rfl)) (cG H R (fun w hs => hs.weaken (by simp) (fun _ h => h)) ?_)
    refine K_bool ?_ k
    (first | simp [iJ, *]; done | (simp [iJ, *]; rw [← List.length_eq_zero_iff]; omega))
theorem do1_k {w0 : World} {H : List Hp} {R : List MP} {K : Value → List Hp → List MP → Prop} (i bd : Nat) (A : Option Addr) (c : Nat) (A2 : Option Addr) (c2 : Nat) (A3 : Option Addr) (c3 : Nat) (d : Drive) (x : DO) (hi : H[i]? = some (.blk bd [.slice A d.bytes.length c, .slice A2 d.pending.length c2] 51))
    (hb : d.bytes.length ≤ 9223372036854775807) (hI : dD x.at_) (hl : x.data.length ≤ 9223372036854775807)
    (k : K (.bool (!iJ d.bytes.length x)) H R) : CallsK Tryz.prog w0 120 #[opV A3 c3 x, .pointer (some ⟨bd, 0, none⟩)] H R K := by
  refine bX Tryz.func120 rfl Tryz.ntmps120 eZ ?_
  repeat' (first | (refine aE rfl rfl ?_; refine aM (i := i + 1) rfl (by simpa using hi) rfl ?_; refine aB ?_) | (refine dS rfl ?_; refine aY fA ?_; refine aA6 _ _ _ _ _ _ d x hb hI hl ?_; refine aB ?_) | (apply aF) | (apply aA) | (apply bN) | (apply aG) | (apply aD) | (apply aP; exact rfl; ((refine aM (i := 0) rfl rfl rfl ?_)); refine aB ?_) | (refine aE rfl rfl ?_; ((first | refine aX ?_ | refine dE rfl ?_)); refine aB ?_) | (refine bG rfl rfl ?_; ((refine eB cW (fun b => ?_))); refine aB ?_))
  refine bC (.inl rfl) (dM rfl (bS rfl)) (cG H R (fun w hs => hs.weaken (by simp) (fun _ h => h)) k)

theorem do1_k2 {w0 : World} {H : List Hp} {R : List MP} {K : Value → List Hp → List MP → Prop} (i bd : Nat) (A : Option Addr) (c : Nat) (A2 : Option Addr) (c2 : Nat) (A3 : Option Addr) (c3 : Nat) (d : Drive) (x : DO) (hi : H[i]? = some (.blk bd [.slice A d.bytes.length c, .slice A2 d.pending.length c2] 51))
    (hb : d.bytes.length ≤ 9223372036854775807) (hI : dD x.at_) (hl : x.data.length ≤ 9223372036854775807)
    (kt : iJ d.bytes.length x = false → K (.bool true) H R) (kf : iJ d.bytes.length x = true → K (.bool false) H R) : CallsK Tryz.prog w0 120 #[opV A3 c3 x, .pointer (some ⟨bd, 0, none⟩)] H R K := by
  refine do1_k i bd A c A2 c2 A3 c3 d x hi hb hI hl ?_
  cases h : iJ d.bytes.length x
  · exact kt h
  · exact kf h
/-- The place of the first operation that is not right. -/
def pP (n : Nat) : List DO → Nat → Int
  | [], _ => -1
  | x :: l, i => if iJ n x then pP n l (i + 1) else i
theorem oY (n : Nat) : ∀ (l : List DO) (i : Nat), decide (0 ≤ pP n l i) = !l.all (iJ n)
  | [], i => by simp [pP]
  | x :: l, i => by
    have ih := oY n l (i + 1)
    cases h : iJ n x <;> simp [pP, h]
    simpa using ih
theorem w8 {w0 : World} {H : List Hp} {R : List MP} {K : Value → List Hp → List MP → Prop} (i bd : Nat) (A : Option Addr) (c : Nat) (A2 : Option Addr) (c2 : Nat) (A3 : Option Addr) (c3 : Nat) (d : Drive) (l : List DO) (hi : H[i]? = some (.blk bd [.slice A d.bytes.length c, .slice A2 d.pending.length c2] 51))
    (hb : d.bytes.length ≤ 9223372036854775807) (hll : l.length ≤ 9223372036854775807) (hm : Sl (.slice A3 l.length c3) l ∈ R)
    (k : K (.int .i64 (pP d.bytes.length l 0)) H R) : CallsK Tryz.prog w0 151 #[.slice A3 l.length c3, .func (.func 120) #[] #[.pointer (some ⟨bd, 0, none⟩)]] H R K := by
  refine bX Tryz.func151 rfl Tryz.ntmps151 eZ ?_
  repeat' (first | (apply aF) | (apply aA) | (apply aT) | (apply aG) | (apply aD) | (refine aE rfl rfl ?_; ((first | refine aH ?_ | refine aX ?_ | refine bQ rfl ?_)); refine aB ?_))
  refine cK [4, 5, 8, 9, 10, 11, 12, 13, 14, 15, 16, 17, 18] (fun m j H' R' => H = H' ∧ R = R' ∧ ∃ q : Nat, q + m = l.length ∧ j 8 = .int .i64 q ∧ pP d.bytes.length l 0 = pP d.bytes.length (l.drop q) q) l.length eE ⟨rfl, rfl, 0, by omega, rfl, rfl⟩ ?_
  rintro m j H' R' ⟨hH, hR, q, hq, h8, hbad⟩
  subst hH; subst hR
  refine cQ (by simp only [dX, List.foldl_cons, List.foldl_nil, List.set_cons_succ, List.set_cons_zero, h8]; rfl) ?_
  have HB := Go.Lib.hid hbad
  clear hbad
  repeat' (first | (refine dS rfl ?_; refine fO rfl fA ?_; refine do1_k2 i bd _ _ _ _ _ _ d _ hi hb hI2 hL (fun hB => ?_) (fun hB => ?_) <;> refine aB ?_) | (apply aF) | (apply aA) | (apply aT) | (apply bN) | (apply bE) | (apply bV) | (apply aK; exact rfl) | (apply aI; exact rfl) | (apply aG) | (apply aD) | (apply bO) | (apply aS) | (apply bP) | (apply dO) | (apply aR) | (apply aP; exact rfl; ((refine aZ rfl cJ rfl ?_)); refine aB ?_) | (apply aU; exact rfl; ((refine bI rfl rfl (by omega) (by omega) ?_)); refine aB ?_) | (apply aU; exact rfl; ((refine bM rfl rfl (fun h => ?_) (fun h => ?_))) <;> (refine aB ?_)) | (apply gL; exact rfl; ((refine oZ eJ rfl aV (List.getElem?_eq_getElem (by omega)) (fun b o A c hI hI2 hL => ?_))); refine aB ?_) | (refine aE rfl rfl ?_; ((first | refine aH ?_ | refine aX ?_)); refine aB ?_))
  · refine bC (.inl rfl) (dM rfl (bS rfl)) (cG H R (fun w hs => hs.weaken (by simp) (fun p hp => by simp [hp])) ?_)
    refine sN ?_ k
    rw [HB.out, List.drop_eq_getElem_cons (show q < l.length by omega), pP, if_neg (by simp [hB])]
  · refine cE (m - 1) _ R (by omega) eE ⟨rfl, rfl, q + 1, by omega, rfl, ?_⟩ (fun w hs => hs.weaken (by simp) (fun p hp => by simp [hp]))
    rw [HB.out, List.drop_eq_getElem_cons (show q < l.length by omega), pP, if_pos hB]
  · refine bC (.inl rfl) (dM rfl (bS rfl)) (cG H R (fun w hs => hs) ?_)
    refine sN ?_ k
    rw [HB.out, List.drop_of_length_le (by omega)]; rfl
theorem wI {w0 : World} {H : List Hp} {R : List MP} {K : Value → List Hp → List MP → Prop} (i bd : Nat) (A : Option Addr) (c : Nat) (A2 : Option Addr) (c2 : Nat) (A3 : Option Addr) (c3 : Nat) (d : Drive) (l : List DO) (hi : H[i]? = some (.blk bd [.slice A d.bytes.length c, .slice A2 d.pending.length c2] 51))
    (hb : d.bytes.length ≤ 9223372036854775807) (hll : l.length ≤ 9223372036854775807) (hm : Sl (.slice A3 l.length c3) l ∈ R)
    (kt : l.all (iJ d.bytes.length) = false → K (.bool true) H R) (kf : l.all (iJ d.bytes.length) = true → K (.bool false) H R) : CallsK Tryz.prog w0 119 #[.slice A3 l.length c3, .func (.func 120) #[] #[.pointer (some ⟨bd, 0, none⟩)]] H R K := by
  have hbad := oY d.bytes.length l 0
  refine bX Tryz.func119 rfl Tryz.ntmps119 eZ ?_
  repeat' (first | (refine dS rfl ?_; refine aY fA ?_; refine w8 i bd _ _ _ _ _ _ d _ hi hb hll hm ?_; refine aB ?_) | (apply aF) | (apply aA) | (apply bN) | (apply aG) | (apply aD) | (apply aU; exact rfl; ((refine jJ rfl rfl (fun h => ?_) (fun h => ?_))) <;> (refine aB ?_)) | (refine aE rfl rfl ?_; ((first | refine aH ?_ | refine aX ?_)); refine aB ?_))
  · refine bC (.inl rfl) (dM rfl (bS rfl)) (cG H R (fun w hs => hs) (kt ?_))
    rw [decide_eq_true (by omega)] at hbad
    simpa using hbad.symm
  · refine bC (.inl rfl) (dM rfl (bS rfl)) (cG H R (fun w hs => hs) (kf ?_))
    rw [decide_eq_false (by omega)] at hbad
    simpa using hbad.symm
end Go.Proofs.YtggdljhmbckpmaaGreat
namespace Go.Proofs.YtggdljhmbckpmaaGreat
open Go Go.RowKit
set_option maxRecDepth 100000
set_option maxHeartbeats 800000

/-- Bytes and an errno are returned, the bytes for good. -/
def KB (K : Value → List Hp → List MP → Prop) (r : List UInt8 × Int) (H : List Hp) (R : List MP) : Prop := ∀ A c, K (.tuple #[.slice A r.1.length c, .int .i64 r.2]) H (Sl (.slice A r.1.length c) r.1 :: R)
theorem uV {K : Value → List Hp → List MP → Prop} {r r' : List UInt8 × Int} {H : List Hp} {R : List MP} (e : r = r') (h : KB K r H R) : KB K r' H R := e ▸ h
structure Rc where
  at_ : Nat
  epoch : Nat
  seq : Nat
  data : List UInt8
abbrev rcV (A : Option Addr) (c : Nat) (r : Rc) : Value := .agg #[.int .i64 (r.at_ : Int), .int .i64 (r.epoch : Int), .int .i64 (r.seq : Int), .slice A r.data.length c]
def Rc.stop (r : Rc) : Nat := r.at_ + 21 + r.data.length
theorem end_k {w0 : World} {H : List Hp} {R : List MP} {K : Value → List Hp → List MP → Prop} (A : Option Addr) (c : Nat) (r : Rc) (hb : r.stop ≤ 1000000000)
    (k : K (.int .i64 (r.stop : Nat)) H R) : CallsK Tryz.prog w0 56 #[rcV A c r] H R K := by
  unfold Rc.stop at *
  refine bX Tryz.func56 rfl Tryz.ntmps56 eZ ?_
  repeat' (first | (apply aF) | (apply aA) | (apply bN) | (apply aG) | (apply aD) | (apply aP; exact rfl; ((refine aM (i := 0) rfl rfl rfl ?_)); refine aB ?_) | (apply aU; exact rfl; ((refine bI rfl rfl (by omega) (by omega) ?_)); refine aB ?_) | (refine aE rfl rfl ?_; ((first | refine aX ?_ | refine aC rfl ?_ | refine bQ rfl ?_)); refine aB ?_) | (refine bG rfl rfl ?_; ((refine eB cW (fun b => ?_))); refine aB ?_))
  refine bC (.inl rfl) (dM rfl (bS rfl)) (cG H R (fun w hs => hs.weaken bU (fun _ h => h)) ?_)
  exact sN (by simp) k
theorem yR {w0 : World} {H : List Hp} {R : List MP} {K : Value → List Hp → List MP → Prop} (A : Option Addr) (m c : Nat) (xs : List UInt8) (hml : m = xs.length) (h4 : 4 ≤ xs.length) (hb : xs.length ≤ 9223372036854775807) (hm : Sl (.slice A m c) xs ∈ R)
    (k : K (.int .u32 (eU xs : Nat)) H R) : CallsK Tryz.prog w0 155 #[.slice A m c] H R K := by
  subst hml; exact r3 A c xs h4 hb hm k
theorem vZ {w0 : World} {H : List Hp} {R : List MP} {K : Value → List Hp → List MP → Prop} (A : Option Addr) (m c : Nat) (xs : List UInt8) (hml : m = xs.length) (hb : xs.length ≤ 9223372036854775807) (hm : Sl (.slice A m c) xs ∈ R)
    (k : K (.int .u32 (lJ xs : Nat)) H R) : CallsK Tryz.prog w0 115 #[.slice A m c] H R K := by
  subst hml; exact sum_k A c xs hb hm k
theorem mX {w0 : World} {H : List Hp} {R : List MP} {K : Value → List Hp → List MP → Prop} (i j b1 b2 : Nat) (A : Option Addr) (c : Nat) (xs : List UInt8) (at_ n : Nat) (hi : H[i]? = some (.blk b1 [.slice A xs.length c] 33)) (hj : H[j]? = some (.blk b2 [.int .i64 (at_ : Int)] 3))
    (hb : xs.length ≤ 600000) (hn : at_ + n + 4 ≤ xs.length) (hm : Sl (.slice A xs.length c) xs ∈ R)
    (k : K (.int .u32 (eU (xs.drop (at_ + n)) : Nat)) H R) : CallsK Tryz.prog w0 154 #[.int .i64 (n : Int), .pointer (some ⟨b1, 0, none⟩), .pointer (some ⟨b2, 0, none⟩)] H R K := by
  refine bX Tryz.func154 rfl Tryz.ntmps154 eZ ?_
  repeat' (first | (refine aE rfl rfl ?_; refine aM (i := i) rfl hi rfl ?_; refine aB ?_) | (refine aE rfl rfl ?_; refine aM (i := j) rfl hj rfl ?_; refine aB ?_) | (refine aE rfl rfl ?_; refine fP rfl hm rfl rfl rfl rfl (by omega) (by omega) (by omega) (fun A8 c8 => ?_); refine aB ?_) | (apply aF) | (apply aA) | (apply aG) | (apply aD) | (apply aU; exact rfl; ((refine bI rfl rfl (by omega) (by omega) ?_)); refine aB ?_) | (refine aE rfl rfl ?_; ((first | refine aH ?_ | refine aX ?_)); refine aB ?_))
  have hl : ((xs.take (xs.length : Int).toNat).drop ((at_ : Int) + (n : Int)).toNat) = xs.drop (at_ + n) := by
    rw [show ((at_ : Int) + (n : Int)).toNat = at_ + n by omega, Int.toNat_natCast, List.take_length]
  repeat' (first | (refine dS rfl ?_; refine aY fA ?_; refine yR _ _ _ ((xs.take (xs.length : Int).toNat).drop ((at_ : Int) + (n : Int)).toNat) (by simp) (by rw [hl]; simp; omega) (by rw [hl]; simp; omega) aV ?_; refine aB ?_) | (apply bN) | (apply aG) | (apply aD) | (refine aE rfl rfl ?_; ((refine aX ?_)); refine aB ?_))
  refine bC (.inl rfl) (dM rfl (bS rfl)) (cG H R (fun w hs => hs.weaken bU cZ) ?_)
  rw [hl]; exact k
end Go.Proofs.YtggdljhmbckpmaaGreat
