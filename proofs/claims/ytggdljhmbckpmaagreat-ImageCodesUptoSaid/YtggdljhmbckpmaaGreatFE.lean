/- Records, Last: walks. Append: walks. -/
import Derived.Test.YtggdljhmbckpmaaGreatFD
import Derived.Test.YtggdljhmbckpmaaGreatAN
import Derived.Test.YtggdljhmbckpmaaGreatFC
set_option linter.unusedVariables false
set_option linter.unusedSimpArgs false
namespace Go.Proofs.YtggdljhmbckpmaaGreat
open Go Go.RowKit
set_option maxRecDepth 100000
set_option maxHeartbeats 800000

theorem oG {w0 : World} {H : List Hp} {R : List MP} {K : Value → List Hp → List MP → Prop} (A : Option Addr) (m c : Nat) (xs : List UInt8) (hml : m = xs.length) (hb : xs.length ≤ 600000) (hm : Sl (.slice A m c) xs ∈ R)
    (k : ∀ A' c', K (.tuple #[.slice A' (kG xs).1.length c', .int .i64 ((kG xs).2 : Int)]) H (Sl (.slice A' (kG xs).1.length c') (kG xs).1 :: R)) : CallsK Tryz.prog w0 55 #[.slice A m c] H R K := by
  subst hml; exact zA A c xs hb hm k

def Rc.toR (r : Rc) : RecD := ⟨r.at_, r.epoch, r.seq, r.data.length⟩
def pO (d : Drive) : List RecD × Int := if eM d then ((kG (iO d)).1.map Rc.toR, 0) else ([], 301)
/-- Records and an errno are returned, the records for good. -/
def KR (K : Value → List Hp → List MP → Prop) (r : List RecD × Int) (H : List Hp) (R : List MP) : Prop := ∀ A c, K (.tuple #[.slice A r.1.length c, .int .i64 r.2]) H (Sl (.slice A r.1.length c) r.1 :: R)
theorem KR_eq {K : Value → List Hp → List MP → Prop} {r r' : List RecD × Int} {H : List Hp} {R : List MP} (e : r = r') (h : KR K r H R) : KR K r' H R := e ▸ h
theorem vD (b : List UInt8) (limit : Nat) (hl : limit ≤ 600000) : ∀ m at_ seq ep, at_ ≤ limit → at_ + (qQ b limit m at_ seq ep).length ≤ limit
  | 0, at_, seq, ep, h => by simp [qQ]; omega
  | m + 1, at_, seq, ep, h => by
    unfold qQ
    split
    · rename_i hc
      obtain ⟨h1, h2, h3, h4⟩ := xI hl hc.1
      have := vD b limit hl m (iF b at_ limit).1.stop (seq + 1) (some (iF b at_ limit).1.epoch) h3
      simp only [List.length_cons]; omega
    · simp; omega
theorem sJ {b : List UInt8} {h : Nat} (hb : b.length ≤ 600000) (hh : h < 2) : (nR b h).length ≤ 600000 := by
  have := vD b ((h + 1) * b.length / 2) (by rcases (show h = 0 ∨ h = 1 by omega) with rfl | rfl <;> simp <;> omega) (b.length + 1) (h * b.length / 2) 0 none (by rcases (show h = 0 ∨ h = 1 by omega) with rfl | rfl <;> simp <;> omega)
  have h2 : (h + 1) * b.length / 2 ≤ 600000 := by rcases (show h = 0 ∨ h = 1 by omega) with rfl | rfl <;> simp <;> omega
  unfold nR
  omega
theorem rR {b : List UInt8} (hb : b.length ≤ 600000) : (kG b).1.length ≤ 600000 := by
  have h0 := sJ (h := 0) hb (by omega)
  have h1 := sJ (h := 1) hb (by omega)
  have key : ∀ h, h ≤ 2 → (lP b h).1.length ≤ 600000 := by
    intro h hh
    induction h with
    | zero => simp [lP]
    | succ h ih =>
      unfold lP
      split
      · rcases (show h = 0 ∨ h = 1 by omega) with rfl | rfl
        · exact h0
        · exact h1
      · exact ih (by omega)
  exact key 2 (by omega)

theorem zE {w0 : World} {H : List Hp} {R : List MP} {K : Value → List Hp → List MP → Prop} (A0 : Option Addr) (c0 : Nat) (A2 : Option Addr) (c2 : Nat) (d : Drive) (hb : d.bytes.length ≤ 9223372036854775807) (hp : d.pending.length ≤ 9223372036854775807)
    (hm : Sl (.slice A0 d.bytes.length c0) d.bytes ∈ R) (hm2 : Sl (.slice A2 d.pending.length c2) d.pending ∈ R)
    (k : KR K (pO d) H R) : CallsK Tryz.prog w0 15 #[dv A0 c0 A2 c2 d] H R K := by
  refine bX Tryz.func15 rfl Tryz.ntmps15 eZ ?_
  repeat' (first | (refine dS rfl ?_; refine aY fA ?_; refine pI _ _ _ _ d hb hp hm hm2 ?_; refine aB ?_) | (apply aF) | (apply aA) | (apply bN) | (apply bE) | (apply aK; exact rfl) | (apply aI; exact rfl) | (apply aG) | (apply aD) | (apply bO) | (apply aP; exact rfl; ((refine aM (i := 0) rfl rfl rfl ?_)); refine aB ?_) | (apply aU; exact rfl; ((refine eL rfl rfl (fun h => ?_) (fun h => ?_))) <;> (refine aB ?_)) | (refine aE rfl rfl ?_; ((first | refine aH ?_ | refine aX ?_)); refine aB ?_) | (refine bG rfl rfl ?_; ((refine eB cW (fun b => ?_))); refine aB ?_))
  · have hc : eM d = false := by unfold jL at h; cases hc : eM d <;> simp_all
    have e : jL d = 301 := by unfold jL; rw [hc]; rfl
    rw [e]
    refine bC (.inl rfl) (jM rfl (bS rfl) (bS rfl)) (cG H (Sl (.slice none 0 0) ([] : List RecD) :: R) (fun w hs => (hs.weaken bU (fun _ h => h)).sl_nil RecD) ?_)
    exact KR_eq (r' := ([], 301)) (by unfold pO; rw [hc]; rfl) k none 0
  have hc : eM d = true := by unfold jL at h; cases hc : eM d <;> simp_all
  have hlen := gR hc
  have h6 := (gQ hc).2.1
  have hcl := rR (b := iO d) (by omega)
  obtain ⟨rs, hrs⟩ : ∃ rs, (kG (iO d)).1 = rs := ⟨_, rfl⟩
  rw [hrs] at hcl
  have k' := KR_eq (r' := (rs.map Rc.toR, 0)) (by unfold pO; rw [if_pos hc, hrs]) k
  repeat' (first | (refine dS rfl ?_; refine aY fA ?_; refine wX _ _ _ _ d hc hm hm2 (fun v => ?_); refine aB ?_; refine jX 0 rfl (fun A' c' hv => ?_); subst hv; refine cA ?_) | (refine dS rfl ?_; refine aY fA ?_; refine oG _ _ _ (iO d) rfl (by omega) aV (fun A3 c3 => ?_); rw [hrs]; refine aB ?_) | (apply aF) | (apply aA) | (apply aT) | (apply aG) | (apply aD) | (refine aE rfl rfl ?_; ((first | refine aH ?_ | refine aX ?_ | refine bQ rfl ?_ | refine cD rfl rfl ?_)); refine aB ?_))
  refine mZ 135 4 ?_
  refine rV (Cx [] ([] : List RecD)) (fun s _ => fT s) ?_
  refine dT _ (Cx [] ([] : List RecD) :: Sl (.slice A3 rs.length c3) rs :: R) (fun w hs => hs.weaken (List.Sublist.refl _) cZ) ?_
  refine cK [2, 8, 22, 23, 24, 25, 26, 27, 28, 29, 30, 31, 32, 33, 34, 35, 36, 37, 38, 39] (fun m j H' R' => ∃ i v cs, i + m = rs.length ∧ j 22 = .int .i64 ((i : Nat) : Int) ∧ j 2 = v ∧ H' = .row v 135 4 i cs :: .blk b [.slice A0 d.bytes.length c0, .slice A2 d.pending.length c2] 51 :: H ∧ R' = Cx cs ((rs.take i).map Rc.toR) :: Sl (.slice A3 rs.length c3) rs :: R) rs.length eE ⟨0, _, [], by omega, rfl, rfl, rfl, rfl⟩ ?_
  rintro m j H' R' ⟨i, v, cs, hi, h22, h2, hH, hR⟩
  subst hH hR
  refine cQ (by simp only [dX, List.foldl_cons, List.foldl_nil, List.set_cons_succ, List.set_cons_zero, h22, h2]; rfl) ?_
  repeat' (first | (refine aE rfl rfl ?_; refine lQ rfl rfl aV (List.getElem?_eq_getElem (by omega)) (fun b' o A4 c4 hok => ?_); refine aB ?_) | (apply aF) | (apply aA) | (apply aT) | (apply bN) | (apply bE) | (apply bV) | (apply aK; exact rfl) | (apply aI; exact rfl) | (apply aG) | (apply aD) | (apply aS) | (apply aR) | (apply aP; exact rfl; ((first | refine aM (i := 0) rfl rfl rfl ?_ | refine aZ rfl cJ rfl ?_)); refine aB ?_) | (apply aU; exact rfl; ((refine bM rfl rfl (fun h => ?_) (fun h => ?_))) <;> (refine aB ?_)) | (apply bD; exact rfl; ((refine aO (i := 0) rfl cW rfl (by rfl) (by simp) (by simp [Value.oneCell']) ?_)); refine aB ?_; refine cA ?_) | (refine aE rfl rfl ?_; ((first | refine aH ?_ | refine aX ?_ | refine aC rfl ?_ | refine bQ rfl ?_ | refine dN gI ?_)); refine aB ?_) | (refine bG rfl rfl ?_; ((first | refine bK cW (fun b => ?_) | refine bH (by decide) fD rfl (fun b => ?_))); refine aB ?_))
  · refine bG rfl rfl ?_
    refine cY 2 0 rfl rfl rfl rfl (by decide) rfl (by simp [Value.oneCell']) (by omega) (by omega) (fun v' => ?_)
    refine aB ?_; refine cA ?_
    have hI : dD ((rs[i]).at_ : Int) ∧ dD ((rs[i]).epoch : Int) ∧ dD ((rs[i]).seq : Int) ∧ dD ((rs[i]).data.length : Int) := by
      have h1 := hok.1
      have h2 := hok.2.1
      have h3 := hok.2.2
      simp only [Rc.stop] at h1
      simp only [dD]
      omega
    refine iG (Cx (cs ++ [.int .i64 (rs[i].at_ : Int), .int .i64 (rs[i].epoch : Int), .int .i64 (rs[i].seq : Int), .int .i64 (rs[i].data.length : Int)]) ((rs.take i).map Rc.toR ++ [rs[i].toR])) (fun s hs => eN (hs (Cx cs ((rs.take i).map Rc.toR)) aV) ⟨rfl, hI⟩) ?_
    repeat' (first | (apply aA) | (apply aG) | (apply aD) | (apply bP) | (apply aU; exact rfl; ((refine bI rfl rfl (by omega) (by omega) ?_)); refine aB ?_) | (refine aE rfl rfl ?_; ((first | refine aH ?_ | refine aX ?_)); refine aB ?_))
    refine cE (m - 1) _ (Cx (cs ++ [.int .i64 (rs[i].at_ : Int), .int .i64 (rs[i].epoch : Int), .int .i64 (rs[i].seq : Int), .int .i64 (rs[i].data.length : Int)]) ((rs.take (i + 1)).map Rc.toR) :: Sl (.slice A3 rs.length c3) rs :: R) (by omega) eE ⟨i + 1, _, _, by omega, rfl, rfl, rfl, rfl⟩ (fun w hs => hs.weaken bU ?_)
    rw [List.take_succ_eq_append_getElem (show i < rs.length by omega), List.map_append, List.map_cons, List.map_nil]
    exact cZ
  · have hie : i = rs.length := by omega
    subst hie
    refine dW 0 rfl rfl (by decide) (show Cx cs (rs.map Rc.toR) ∈ _ by rw [List.take_length]; exact List.mem_cons_self) (fun A5 c5 hv => ?_)
    subst hv
    refine bC (.inl rfl) (jM rfl (bS rfl) (bS rfl)) (cG H _ (fun w hs => hs.weaken bU cZ) (k' A5 c5))

def uA (d : Drive) : List UInt8 × Int := if eM d then (if (kG (iO d)).1.length = 0 then ([], 302) else (((kG (iO d)).1.getD ((kG (iO d)).1.length - 1) Rc.zero).data, 0)) else ([], 301)
theorem r6 {w0 : World} {H : List Hp} {R : List MP} {K : Value → List Hp → List MP → Prop} (A : Option Addr) (m c : Nat) (xs : List UInt8) (hml : m = xs.length) (hb : xs.length ≤ 140737488355328) (hm : Sl (.slice A m c) xs ∈ R)
    (k : ∀ v', K v' (.row v' 5 1 xs.length (bA xs) :: H) R) : CallsK Tryz.prog w0 64 #[.slice A m c] H R K := by
  subst hml; exact nA A c xs hb hm k
theorem i0 {w0 : World} {H : List Hp} {R : List MP} {K : Value → List Hp → List MP → Prop} (A0 : Option Addr) (c0 : Nat) (A2 : Option Addr) (c2 : Nat) (d : Drive) (hb : d.bytes.length ≤ 9223372036854775807) (hp : d.pending.length ≤ 9223372036854775807)
    (hm : Sl (.slice A0 d.bytes.length c0) d.bytes ∈ R) (hm2 : Sl (.slice A2 d.pending.length c2) d.pending ∈ R)
    (k : KB K (uA d) H R) : CallsK Tryz.prog w0 17 #[dv A0 c0 A2 c2 d] H R K := by
  refine bX Tryz.func17 rfl Tryz.ntmps17 eZ ?_
  repeat' (first | (refine dS rfl ?_; refine aY fA ?_; refine pI _ _ _ _ d hb hp hm hm2 ?_; refine aB ?_) | (apply aF) | (apply aA) | (apply bN) | (apply bE) | (apply aK; exact rfl) | (apply aI; exact rfl) | (apply aG) | (apply aD) | (apply bO) | (apply aP; exact rfl; ((refine aM (i := 0) rfl rfl rfl ?_)); refine aB ?_) | (apply aU; exact rfl; ((refine eL rfl rfl (fun h => ?_) (fun h => ?_))) <;> (refine aB ?_)) | (refine aE rfl rfl ?_; ((first | refine aH ?_ | refine aX ?_)); refine aB ?_) | (refine bG rfl rfl ?_; ((refine eB cW (fun b => ?_))); refine aB ?_))
  · have hc : eM d = false := by unfold jL at h; cases hc : eM d <;> simp_all
    have e : jL d = 301 := by unfold jL; rw [hc]; rfl
    rw [e]
    refine bC (.inl rfl) (jM rfl (bS rfl) (bS rfl)) (cG H (Sl (.slice none 0 0) ([] : List UInt8) :: R) (fun w hs => (hs.weaken bU (fun _ h => h)).sl_nil UInt8) ?_)
    exact uV (r' := ([], 301)) (by unfold uA; rw [hc]; rfl) k none 0
  have hc : eM d = true := by unfold jL at h; cases hc : eM d <;> simp_all
  have hlen := gR hc
  have h6 := (gQ hc).2.1
  have hcl := rR (b := iO d) (by omega)
  obtain ⟨rs, hrs⟩ : ∃ rs, (kG (iO d)).1 = rs := ⟨_, rfl⟩
  rw [hrs] at hcl
  have k' := uV (r' := if rs.length = 0 then ([], 302) else ((rs.getD (rs.length - 1) Rc.zero).data, 0)) (by unfold uA; rw [if_pos hc, hrs]) k
  repeat' (first | (refine dS rfl ?_; refine aY fA ?_; refine wX _ _ _ _ d hc hm hm2 (fun v => ?_); refine aB ?_; refine jX 0 rfl (fun A' c' hv => ?_); subst hv; refine cA ?_) | (refine dS rfl ?_; refine aY fA ?_; refine oG _ _ _ (iO d) rfl (by omega) aV (fun A3 c3 => ?_); rw [hrs]; refine aB ?_) | (apply aF) | (apply aA) | (apply bN) | (apply bE) | (apply aK; exact rfl) | (apply aI; exact rfl) | (apply aG) | (apply aD) | (apply bO) | (apply aU; exact rfl; ((refine eR rfl rfl (by omega) (by omega) ?_)); refine aB ?_) | (apply aU; exact rfl; ((refine fS rfl rfl (fun h => ?_) (fun h => ?_))) <;> (refine aB ?_)) | (refine aE rfl rfl ?_; ((first | refine aH ?_ | refine aX ?_ | refine bQ rfl ?_ | refine cD rfl rfl ?_)); refine aB ?_))
  · rw [if_pos (by omega)] at k'
    refine bC (.inl rfl) (jM rfl (bS rfl) (bS rfl)) (cG H (Sl (.slice none 0 0) ([] : List UInt8) :: R) (fun w hs => (hs.weaken bU cZ).sl_nil UInt8) (k' none 0))
  · rw [if_neg (by omega)] at k'
    have e : rs.getD (rs.length - 1) Rc.zero = rs[rs.length - 1]'(by omega) := by simp [List.getD, show rs.length - 1 < rs.length by omega]
    rw [e] at k'
    have hi : ((rs.length : Int) - 1) = ((rs.length - 1 : Nat) : Int) := by omega
    repeat' (first | (rw [hi]; refine aE rfl rfl ?_; refine lQ rfl rfl aV (List.getElem?_eq_getElem (by omega)) (fun b' o A4 c4 hok => ?_); refine aB ?_) | (refine dS rfl ?_; refine aY fA ?_; refine r6 _ _ _ (rs[rs.length - 1]'(by omega)).data rfl (by have h1 := hok.1; simp only [Rc.stop] at h1; omega) aV (fun v => ?_); refine aB ?_; refine jX 0 rfl (fun A' c' hv => ?_); subst hv; refine cA ?_) | (apply bN) | (apply aG) | (apply aD) | (apply aP; exact rfl; ((refine aQ rfl cJ rfl ?_)); refine aB ?_) | (refine aE rfl rfl ?_; ((first | refine aX ?_ | refine aC rfl ?_)); refine aB ?_))
    refine bC (.inl rfl) (jM rfl (bS rfl) (bS rfl)) (cG H _ (fun w hs => hs.weaken bU cZ) (k' _ _))
end Go.Proofs.YtggdljhmbckpmaaGreat
namespace Go.Proofs.YtggdljhmbckpmaaGreat
open Go Go.RowKit
set_option maxRecDepth 100000
set_option maxHeartbeats 1600000

/-- Operations and an errno are returned, the operations for good. -/
def KO (K : Value → List Hp → List MP → Prop) (r : List DO × Int) (H : List Hp) (R : List MP) : Prop := ∀ A c, K (.tuple #[.slice A r.1.length c, .int .i64 r.2]) H (Sl (.slice A r.1.length c) r.1 :: R)
theorem sT {K : Value → List Hp → List MP → Prop} {r r' : List DO × Int} {H : List Hp} {R : List MP} (e : r = r') (h : KO K r H R) : KO K r' H R := e ▸ h
structure Spot where
  at_ : Nat
  epoch : Nat
  seq : Nat
  half : Nat
/-- Where the next record comes to stand. -/
def sP (l : List Rc) (half size n : Nat) : Spot :=
  if l.length = 0 then ⟨0, 1, 0, half⟩
  else if (half + 1) * size < n + (l.getD (l.length - 1) Rc.zero).stop then ⟨(1 - half) * size, (l.getD (l.length - 1) Rc.zero).epoch + 1, 0, 1 - half⟩
  else ⟨(l.getD (l.length - 1) Rc.zero).stop, (l.getD (l.length - 1) Rc.zero).epoch, (l.getD (l.length - 1) Rc.zero).seq + 1, half⟩
def zB (p : Spot) (size : Nat) (data : List UInt8) : List DO × Int :=
  if 2147483647 < p.epoch ∨ 2147483647 < p.seq then ([], 2)
  else ([⟨1, p.at_, [0]⟩, ⟨2, 0, []⟩, ⟨1, (p.at_ + 1 : Nat), (lM p.epoch p.seq data).drop 1 ++ (if p.at_ + (21 + data.length) < (p.half + 1) * size then [0] else [])⟩, ⟨2, 0, []⟩, ⟨1, p.at_, [167]⟩, ⟨2, 0, []⟩], 0)
def pH (d : Drive) (data : List UInt8) : List DO × Int :=
  if eM d then (if (iO d).length / 2 < 21 + data.length then ([], 303) else zB (sP (kG (iO d)).1 (kG (iO d)).2 ((iO d).length / 2) (21 + data.length)) ((iO d).length / 2) data) else ([], 301)
theorem yV (b : List UInt8) : (kG b).2 ≤ 1 := by
  unfold kG
  have key : ∀ h, (lP b h).2 ≤ h - 1 := by
    intro h
    induction h with
    | zero => simp [lP]
    | succ h ih =>
      unfold lP
      split
      · simp
      · omega
  exact key 2

theorem iU {w0 : World} {H : List Hp} {R : List MP} {K : Value → List Hp → List MP → Prop} (at_ : Int) (A : Option Addr) (m c : Nat)
    (k : K (.agg #[.int .i64 1, .int .i64 at_, .slice A m c]) H R) : CallsK Tryz.prog w0 58 #[.int .i64 at_, .slice A m c] H R K := by
  refine bX Tryz.func58 rfl Tryz.ntmps58 eZ ?_
  repeat' (first | (apply aF) | (apply aA) | (apply bN) | (apply aG) | (apply aD) | (apply bD; exact rfl; ((refine aO (i := 0) rfl cW rfl (by rfl) (by simp) (by simp [Value.oneCell']) ?_)); refine aB ?_; refine cA ?_) | (refine aE rfl rfl ?_; ((first | refine aH ?_ | refine dN gI ?_)); refine aB ?_) | (refine bG rfl rfl ?_; ((refine bK cW (fun b => ?_))); refine aB ?_))
  refine bC (.inl rfl) (dM rfl (dG (i := 0) rfl rfl rfl)) (cG H R (fun w hs => hs.weaken bU cZ) k)

theorem uQ {w0 : World} {H : List Hp} {R : List MP} {K : Value → List Hp → List MP → Prop} (A0 : Option Addr) (c0 : Nat) (A2 : Option Addr) (c2 : Nat) (A3 : Option Addr) (c3 : Nat) (d : Drive) (data : List UInt8) (hb : d.bytes.length ≤ 9223372036854775807) (hp : d.pending.length ≤ 9223372036854775807) (hdl : data.length ≤ 9223372036854770000)
    (hm : Sl (.slice A0 d.bytes.length c0) d.bytes ∈ R) (hm2 : Sl (.slice A2 d.pending.length c2) d.pending ∈ R) (hm3 : Sl (.slice A3 data.length c3) data ∈ R)
    (k : KO K (pH d data) H R) : CallsK Tryz.prog w0 13 #[dv A0 c0 A2 c2 d, .slice A3 data.length c3] H R K := by
  refine bX Tryz.func13 rfl Tryz.ntmps13 eZ ?_
  repeat' (first | (refine dS rfl ?_; refine aY fA ?_; refine pI _ _ _ _ d hb hp hm hm2 ?_; refine aB ?_) | (apply aF) | (apply aA) | (apply bN) | (apply bE) | (apply aK; exact rfl) | (apply aI; exact rfl) | (apply aG) | (apply aD) | (apply bO) | (apply aP; exact rfl; ((refine aM (i := 0) rfl rfl rfl ?_)); refine aB ?_) | (apply aU; exact rfl; ((refine eL rfl rfl (fun h => ?_) (fun h => ?_))) <;> (refine aB ?_)) | (refine aE rfl rfl ?_; ((first | refine aH ?_ | refine aX ?_)); refine aB ?_) | (refine bG rfl rfl ?_; ((refine eB cW (fun b => ?_))); refine aB ?_))
  · have hc : eM d = false := by unfold jL at h; cases hc : eM d <;> simp_all
    have e : jL d = 301 := by unfold jL; rw [hc]; rfl
    rw [e]
    refine bC (.inl rfl) (jM rfl (bS rfl) (bS rfl)) (cG H (Sl (.slice none 0 0) ([] : List DO) :: R) (fun w hs => (hs.weaken bU (fun _ h => h)).sl_nil DO) ?_)
    exact sT (r' := ([], 301)) (by unfold pH; rw [hc]; rfl) k none 0
  have hc : eM d = true := by unfold jL at h; cases hc : eM d <;> simp_all
  have hlen := gR hc
  have h6 := (gQ hc).2.1
  have hcl := rR (b := iO d) (by omega)
  have hch := yV (iO d)
  obtain ⟨rs, hrs⟩ : ∃ rs, (kG (iO d)).1 = rs := ⟨_, rfl⟩
  obtain ⟨half, hhf⟩ : ∃ half, (kG (iO d)).2 = half := ⟨_, rfl⟩
  obtain ⟨sz, hsz⟩ : ∃ sz, (iO d).length / 2 = sz := ⟨_, rfl⟩
  have hszi : ((iO d).length : Int) / 2 = (sz : Int) := by omega
  have hsz3 : sz ≤ 300000 := by omega
  rw [hrs] at hcl
  rw [hhf] at hch
  have k' := sT (r' := if sz < 21 + data.length then ([], 303) else zB (sP rs half sz (21 + data.length)) sz data) (by unfold pH; rw [if_pos hc, hrs, hhf, hsz]) k
  repeat' (first | (refine dS rfl ?_; refine aY fA ?_; refine wX _ _ _ _ d hc hm hm2 (fun v => ?_); refine aB ?_; refine jX 0 rfl (fun A' c' hv => ?_); subst hv; refine cA ?_) | ((with_reducible rw [hszi])) | (apply aF) | (apply aA) | (apply bN) | (apply bE) | (apply aK; exact rfl) | (apply aI; exact rfl) | (apply aG) | (apply aD) | (apply bO) | (apply aU; exact rfl; ((first | refine bI rfl rfl (by omega) (by omega) ?_ | refine mE rfl rfl (by omega) (by omega) (by omega) ?_)); refine aB ?_) | (apply aU; exact rfl; ((refine fF rfl rfl (fun h => ?_) (fun h => ?_))) <;> (refine aB ?_)) | (refine aE rfl rfl ?_; ((first | refine aH ?_ | refine aX ?_ | refine bQ rfl ?_)); refine aB ?_))
  · rw [if_pos (by omega)] at k'
    refine bC (.inl rfl) (jM rfl (bS rfl) (bS rfl)) (cG H (Sl (.slice none 0 0) ([] : List DO) :: R) (fun w hs => (hs.weaken bU cZ).sl_nil DO) (k' none 0))
  rw [if_neg (by omega)] at k'
  refine dS rfl ?_; refine aY fA ?_; refine oG _ _ _ (iO d) rfl (by omega) aV (fun A4 c4 => ?_); rw [hrs, hhf]; refine aB ?_
  repeat' ((refine aE rfl rfl ?_; ((first | refine aH ?_ | refine aX ?_ | refine cD rfl rfl ?_)); refine aB ?_))
  apply aG; apply aD; apply aF; apply aA
  repeat' ((refine aE rfl rfl ?_; ((refine aX ?_)); refine aB ?_))
  apply aG; apply aD
  have h01 : half = 0 ∨ half = 1 := by omega
  have hp1 : 0 ≤ ((half : Int) + 1) * (sz : Int) ∧ ((half : Int) + 1) * (sz : Int) ≤ 600000 := by
    rcases h01 with e | e <;> rw [e] <;> simp <;> omega
  have hp2 : 0 ≤ (1 - (half : Int)) * (sz : Int) ∧ (1 - (half : Int)) * (sz : Int) ≤ 600000 := by
    rcases h01 with e | e <;> rw [e] <;> simp <;> omega
  have hp4 : (1 - (half : Int)) * (sz : Int) = (((1 - half) * sz : Nat) : Int) ∧ (1 - (half : Int)) = ((1 - half : Nat) : Int) := by
    rcases h01 with e | e <;> rw [e] <;> simp
  have hp5 : sz ≤ (half + 1) * sz ∧ (1 - half + 1) * sz = (1 - half) * sz + sz :=
    ⟨Nat.le_mul_of_pos_left _ (by omega), by rw [Nat.add_mul, Nat.one_mul]⟩
  have hp3 : ((half : Int) + 1) * (sz : Int) = (((half + 1) * sz : Nat) : Int) := by push_cast; rfl
  refine dT _ (Sl (.slice A4 rs.length c4) rs :: R) (fun w hs => hs.weaken (List.Sublist.refl _) cZ) ?_
  refine iY [11, 12, 13, 14, 15, 16, 41, 42, 43, 44, 45, 46, 47, 48, 49, 50, 51, 52, 53, 54, 55, 56, 57, 58, 59, 60, 61, 62, 63, 64, 65, 66, 67, 68, 69, 70, 71, 72] (fun j H' R' => ∃ p : Spot, sP rs half sz (21 + data.length) = p ∧ j 11 = .int .i64 (p.half : Int) ∧ j 12 = .int .i64 (p.at_ : Int) ∧ j 13 = .int .i64 (p.epoch : Int) ∧ j 14 = .int .i64 (p.seq : Int) ∧ H' = H ∧ R' = R ∧ p.at_ + 21 + data.length ≤ (p.half + 1) * sz ∧ p.half ≤ 1 ∧ p.epoch ≤ 4294967296 ∧ p.seq ≤ 4294967296) ?_ ?_
  · have hi : 0 < rs.length → ((rs.length : Int) - 1) = ((rs.length - 1 : Nat) : Int) := by omega
    repeat' (first | (rw [hi (by omega)]; refine aE rfl rfl ?_; refine lQ rfl rfl aV (List.getElem?_eq_getElem (by omega)) (fun b' o A4 c4 hok => ?_); refine aB ?_) | (apply aF) | (apply aA) | (apply bE) | (apply aK; exact rfl) | (apply aI; exact rfl) | (apply aG) | (apply aD) | (apply aP; exact rfl; ((refine aZ rfl cJ rfl ?_)); refine aB ?_) | (apply aU; exact rfl; ((refine eR rfl rfl (by omega) (by omega) ?_)); refine aB ?_) | (apply aU; exact rfl; ((refine fF rfl rfl (fun h => ?_) (fun h => ?_))) <;> (refine aB ?_)) | (apply bD; exact rfl; ((refine aO (i := 0) rfl cW rfl (by rfl) (by simp) (by simp [Value.oneCell']) ?_)); refine aB ?_; refine cA ?_) | (refine aE rfl rfl ?_; ((first | refine aH ?_ | refine aX ?_ | refine bQ rfl ?_)); refine aB ?_) | (refine bG rfl rfl ?_; ((refine bK cW (fun b => ?_))); refine aB ?_))
    · have hlast : rs.getD (rs.length - 1) Rc.zero = rs[rs.length - 1]'(by omega) := by simp [List.getD, show rs.length - 1 < rs.length by omega]
      obtain ⟨la, hla⟩ : ∃ la, rs[rs.length - 1]'(by omega) = la := ⟨_, rfl⟩
      have hsp : sP rs half sz (21 + data.length) = if (half + 1) * sz < 21 + data.length + la.stop then ⟨(1 - half) * sz, la.epoch + 1, 0, 1 - half⟩ else ⟨la.stop, la.epoch, la.seq + 1, half⟩ := by unfold sP; rw [if_neg (by omega), hlast, hla]
      have HS := Go.Lib.hid hsp
      rw [hla] at hok ⊢
      clear hsp hlast hla
      have h1 := hok.1
      have h2 := hok.2.1
      have h3 := hok.2.2
      refine dQ eT (by decide +kernel) (fun _ _ _ _ _ _ h => nomatch h.1) bU ?_
      all_goals ((refine bR 0 bU ?_; ((refine aM (i := 0) rfl rfl rfl ?_)); refine aJ ?_))
      all_goals ((refine bR 2 bU ?_; ((refine aC rfl ?_)); refine aJ ?_))
      all_goals ((refine bR 3 bU ?_; ((refine aM (i := 0) rfl rfl rfl ?_)); refine aJ ?_))
      all_goals ((refine bR 4 bU ?_; ((refine aC rfl ?_)); refine aJ ?_))
      all_goals ((refine bR 5 bU ?_; ((refine aM (i := 0) rfl rfl rfl ?_)); refine aJ ?_))
      all_goals ((refine bR 6 bU ?_; ((refine bI rfl rfl (by omega) (by omega) ?_)); refine aJ ?_))
      -- left: [1, 7, 8, 9]; ready: [1]: ['call']
      refine fN 1 ?_
      refine aY fA ?_; refine end_k A4 c4 la (by omega) ?_
      refine ⟨.inl (fun w hs => hs.weaken bU cZ), ?_⟩; refine aJ ?_
      all_goals ((refine bR 7 bU ?_; ((refine aX ?_)); refine aJ ?_))
      all_goals ((refine bR 8 bU ?_; ((refine aX ?_)); refine aJ ?_))
      all_goals ((refine bR 9 bU ?_; ((refine aX ?_)); refine aJ ?_))
      all_goals refine gX ?_
      repeat' (first | (apply aF) | (apply aA) | (apply bE) | (apply aK; exact rfl) | (apply aI; exact rfl) | (apply aG) | (apply aD) | (apply aU; exact rfl; ((first | refine bI rfl rfl (by omega) (by omega) ?_ | refine eR rfl rfl (by omega) (by omega) ?_ | refine iA rfl rfl (by omega) (by omega) ?_)); refine aB ?_) | (apply aU; exact rfl; ((refine fF rfl rfl (fun h => ?_) (fun h => ?_))) <;> (refine aB ?_)) | (refine aE rfl rfl ?_; ((first | refine aH ?_ | refine aX ?_)); refine aB ?_))
      · skip
        refine dQ eT (by decide +kernel) (fun _ _ _ _ _ _ h => nomatch h.1) bU ?_
        all_goals ((refine bR 0 bU ?_; ((refine aH ?_)); refine aJ ?_))
        all_goals ((refine bR 1 bU ?_; ((refine aH ?_)); refine aJ ?_))
        all_goals ((refine bR 2 bU ?_; ((refine iA rfl rfl (by omega) (by omega) ?_)); refine aJ ?_))
        all_goals ((refine bR 3 bU ?_; ((refine aC rfl ?_)); refine aJ ?_))
        all_goals ((refine bR 4 bU ?_; ((refine aM (i := 0) rfl rfl rfl ?_)); refine aJ ?_))
        all_goals ((refine bR 5 bU ?_; ((refine bI rfl rfl (by omega) (by omega) ?_)); refine aJ ?_))
        all_goals ((refine bR 6 bU ?_; ((refine aX ?_)); refine aJ ?_))
        all_goals ((refine bR 7 bU ?_; ((refine aX ?_)); refine aJ ?_))
        all_goals ((refine bR 8 bU ?_; ((refine aX ?_)); refine aJ ?_))
        all_goals refine gX ?_
        refine fI H R eE ⟨⟨(1 - half) * sz, la.epoch + 1, 0, 1 - half⟩, ?_, congrArg (Value.int .i64) hp4.2, congrArg (Value.int .i64) hp4.1, by rw [Int.natCast_succ]; rfl, rfl, rfl, rfl, by simp only; omega, by simp only; omega, by simp only; omega, by simp only; omega⟩ (fun w hs => hs.weaken bU cZ)
        rw [HS.out, if_pos (by omega)]
      · refine fI H R eE ⟨⟨la.stop, la.epoch, la.seq + 1, half⟩, ?_, rfl, rfl, rfl, by rw [Int.natCast_succ]; rfl, rfl, rfl, by simp only; omega, hch, by simp only; omega, by simp only; omega⟩ (fun w hs => hs.weaken bU cZ)
        rw [HS.out, if_neg (by omega)]
    · refine fI H R eE ⟨⟨0, 1, 0, half⟩, ?_, rfl, rfl, rfl, rfl, rfl, rfl, by simp only; omega, hch, by simp only; omega, by simp only; omega⟩ (fun w hs => hs.weaken bU cZ)
      unfold sP; rw [if_pos (by omega)]
  · rintro j H' R' ⟨p, hsp, h11, h12, h13, h14, hH, hR, hpa, hph, hpe, hps⟩
    subst hH hR
    refine cQ (by simp only [dX, List.foldl_cons, List.foldl_nil, List.set_cons_succ, List.set_cons_zero, h11, h12, h13, h14]; rfl) ?_
    have k2 := sT (r' := zB p sz data) (by rw [hsp]) k'
    clear k k' hsp hrs hhf
    repeat' (first | (apply aF) | (apply aA) | (apply bN) | (apply bE) | (apply aK; exact rfl) | (apply aI; exact rfl) | (apply aG) | (apply aD) | (apply bO) | (apply aU; exact rfl; ((refine fF rfl rfl (fun h => ?_) (fun h => ?_))) <;> (refine aB ?_)) | (refine aE rfl rfl ?_; ((first | refine aH ?_ | refine aX ?_ | refine bT rfl eJ ?_ | refine cI rfl eJ ?_)); refine aB ?_) | (refine cR rfl ?_; refine aB ?_))
    · have k3 := sT (r' := ([], 2)) (by unfold zB; rw [if_pos (.inl (by omega))]) k2
      refine bC (.inl rfl) (jM rfl (bS rfl) (bS rfl)) (cG H' (Sl (.slice none 0 0) ([] : List DO) :: R') (fun w hs => (hs.weaken bU cZ).sl_nil DO) (k3 none 0))
    · have k3 := sT (r' := ([], 2)) (by unfold zB; rw [if_pos (.inr (by omega))]) k2
      refine bC (.inl rfl) (jM rfl (bS rfl) (bS rfl)) (cG H' (Sl (.slice none 0 0) ([] : List DO) :: R') (fun w hs => (hs.weaken bU cZ).sl_nil DO) (k3 none 0))
    refine dS rfl ?_; refine aY fA ?_; refine w9 _ _ data p.epoch p.seq (by omega) (by omega) (by omega) aV (fun v => ?_); refine aB ?_
    have hwl := nP p.epoch p.seq data
    obtain ⟨wB, hwB⟩ : ∃ wB, lM p.epoch p.seq data = wB := ⟨_, rfl⟩
    rw [hwB] at hwl ⊢
    have hpa2 : (p.half + 1) * sz ≤ 600000 := Nat.le_trans (Nat.mul_le_mul (show p.half + 1 ≤ 2 by omega) hsz3) (by omega)
    have hp6 : 0 ≤ ((p.half : Int) + 1) * (sz : Int) ∧ ((p.half : Int) + 1) * (sz : Int) ≤ 600000 ∧ ((p.half : Int) + 1) * (sz : Int) = (((p.half + 1) * sz : Nat) : Int) := by
      have e : ((p.half : Int) + 1) * (sz : Int) = (((p.half + 1) * sz : Nat) : Int) := by push_cast; rfl
      rw [e]; omega
    refine aC3 0 rfl (by omega) (fun b2 cap sp hv hl1 hl2 hl3 hl4 => ?_)
    subst hv
    refine cA ?_
    rw [Nat.mul_one] at hl1
    have hl5 : 1 + (cap - 1) ≤ (bA wB ++ sp).length := by omega
    refine aE rfl rfl ?_; refine iP rfl rfl rfl (by omega) (by omega) (by omega) (fun o' ho' => ?_)
    obtain rfl : o' = 1 := by omega
    have e1 : (wB.length : Int).toNat - (1 : Int).toNat = (wB.drop 1).length := by simp
    have hdl1 : (wB.drop 1).length = 20 + data.length := by simp; omega
    rw [e1]
    refine aB ?_
    repeat' ((refine aE rfl rfl ?_; ((refine aX ?_)); refine aB ?_))
    apply aG; apply aD
    have hcs : ∀ k x, (wB.drop 1)[k]? = some x → (bA wB ++ sp)[1 + k]? = some (eP x) := fun k x hk => by
      have hk2 := (List.getElem?_eq_some_iff.1 hk).1
      rw [List.getElem?_append_left (by simp at hk2 ⊢; omega)]
      rw [List.getElem?_drop] at hk
      simp [bA, hk]
    have hc1 : (cap - (1 : Int).toNat) = cap - 1 := rfl
    rw [hc1]
    refine iY [17, 84, 85, 86, 87, 88, 89, 90, 91, 92, 93, 94] (fun j H2 R2 => ∃ rest A c, j 17 = .slice A rest.length c ∧ rest = wB.drop 1 ++ (if p.at_ + (21 + data.length) < (p.half + 1) * sz then [0] else []) ∧ H2 = H' ∧ R2 = Sl (.slice A rest.length c) rest :: R') ?_ ?_
    · skip
      repeat' (first | (apply aF) | (apply aA) | (apply bE) | (apply aK; exact rfl) | (apply aI; exact rfl) | (apply aG) | (apply aD) | (apply aU; exact rfl; ((first | refine bI rfl rfl (by omega) (by omega) ?_ | refine iA rfl rfl (by omega) (by omega) ?_)); refine aB ?_) | (apply aU; exact rfl; ((refine bM rfl rfl (fun h => ?_) (fun h => ?_))) <;> (refine aB ?_)) | (refine aE rfl rfl ?_; ((refine aH ?_)); refine aB ?_) | (refine bG rfl rfl ?_; ((refine bH (by decide) fD rfl (fun b => ?_))); refine aB ?_))
      · refine bG rfl rfl ?_
        refine sH 1 0 (xs := wB.drop 1) (ys := [0]) rfl rfl rfl rfl hcs (by omega) (by omega) hl5 (by simp; omega) (by simp; omega) (fun A c' => ?_)
        refine aB ?_; refine cA ?_
        repeat' (first | (apply aG) | (refine aE rfl rfl ?_; ((refine aX ?_)); refine aB ?_))
        refine fI H' _ eE ⟨wB.drop 1 ++ [0], A, c', rfl, by rw [if_pos (by omega)], rfl, rfl⟩ (fun w hs => hs.weaken bU cZ)
      · refine fI H' _ eE ⟨wB.drop 1, some ⟨b2, 1, none⟩, cap - 1, rfl, by rw [if_neg (by omega), List.append_nil], rfl, rfl⟩ (fun w hs => ((hs.freeze (i := 0) rfl).add (Sl (.slice (some ⟨b2, 1, none⟩) (wB.drop 1).length (cap - 1)) (wB.drop 1)) (fun s hR => Sl_at (hR _ List.mem_cons_self) rfl (by omega) (by simp only [maxLen] at hl4; simp only [dY]; omega) hcs)).weaken bU cZ)
    rintro j2 H2 R2 ⟨rest, A5, c5, h17, hrest, hH, hR⟩
    subst hH hR
    refine cQ (by simp only [dX, List.foldl_cons, List.foldl_nil, List.set_cons_succ, List.set_cons_zero, h17]; rfl) ?_
    have HRST := Go.Lib.hid hrest
    clear hrest hcs
    repeat' (first | (apply aF) | (apply aA) | (apply aG) | (apply aD) | (apply bD; exact rfl; ((refine aO (i := 0) rfl cW rfl (by rfl) (by simp) (by simp [Value.oneCell']) ?_)); refine aB ?_; refine cA ?_) | (refine aE rfl rfl ?_; ((first | refine aX ?_ | refine dN gI ?_)); refine aB ?_) | (refine bG rfl rfl ?_; ((refine bK cW (fun b => ?_))); refine aB ?_))
    refine dQ eT (by decide +kernel) (fun _ _ _ _ _ _ h => h) bU ?_
    all_goals ((refine bR 0 bU ?_; ((refine aH ?_)); refine aJ ?_))
    all_goals ((refine bR 1 bU ?_; ((refine aH ?_)); refine aJ ?_))
    all_goals ((refine bR 4 bU ?_; ((refine aM (i := 0) rfl rfl rfl ?_)); refine aJ ?_))
    all_goals ((refine bR 5 bU ?_; ((refine aH ?_)); refine aJ ?_))
    all_goals ((refine bR 6 bU ?_; ((refine aH ?_)); refine aJ ?_))
    all_goals ((refine bR 7 bU ?_; ((refine bI rfl rfl (by omega) (by omega) ?_)); refine aJ ?_))
    all_goals ((refine bR 8 bU ?_; ((refine aH ?_)); refine aJ ?_))
    all_goals ((refine bR 10 bU ?_; ((refine aM (i := 0) rfl rfl rfl ?_)); refine aJ ?_))
    all_goals ((refine bR 11 bU ?_; ((refine aH ?_)); refine aJ ?_))
    all_goals ((refine bR 12 bU ?_; ((refine aH ?_)); refine aJ ?_))
    all_goals ((refine bR 15 bU ?_; ((refine aM (i := 0) rfl rfl rfl ?_)); refine aJ ?_))
    -- left: [2, 3, 9, 13, 14, 16, 17, 18]; ready: [2, 13]: ['buildSlice', 'buildSlice']
    refine cut2 (G := ?G) ?ha ?hb
    case ha =>
      intro hG
      refine nV 2 13 ?_ ?_
      · skip
        refine GW.ow rfl ?_; refine bH (by decide) fD rfl (fun b98 => ?_)
        refine ⟨.inl (fun w hs => hs.weaken bU cZ), ?_⟩; refine aJ ?_
        refine eQ (fun w hs => hs.bytes_stay (i := 0) (xs := [0]) (n := 1) (c := 1) rfl rfl (by omega) (by simp only [dY]; omega)) ?_
        refine jC ?_
        refine nV 3 13 ?_ ?_
        · skip
          refine fO rfl fA ?_; refine iU _ _ _ _ ?_
          refine ⟨.inl (fun w hs => hs.weaken bU cZ), ?_⟩; refine aJ ?_
          refine nV 9 13 ?_ ?_
          · skip
            refine fO rfl fA ?_; refine iU _ _ _ _ ?_
            refine ⟨.inl (fun w hs => hs.weaken bU cZ), ?_⟩; refine aJ ?_
            refine fN 13 ?_
            refine GW.ow rfl ?_; refine bH (by decide) fD rfl (fun b109 => ?_)
            refine ⟨.inl (fun w hs => hs.weaken bU cZ), ?_⟩; refine aJ ?_
            refine eQ (fun w hs => hs.bytes_stay (i := 0) (xs := [167]) (n := 1) (c := 1) rfl rfl (by omega) (by simp only [dY]; omega)) ?_
            refine jC ?_
            refine eQ (R' := Sl (.slice (some ⟨b98, 0, none⟩) 1 1) ([0] : List UInt8) :: Sl (.slice (some ⟨b109, 0, none⟩) 1 1) ([167] : List UInt8) :: Sl (.slice A5 rest.length c5) rest :: R') (fun w hs => hs.weaken (List.Sublist.refl _) cZ) ?_
            exact hG b98 b109
          · skip
            refine GW.ow rfl ?_; refine bH (by decide) fD rfl (fun b109 => ?_)
            refine ⟨.inl (fun w hs => hs.weaken bU cZ), ?_⟩; refine aJ ?_
            refine eQ (fun w hs => hs.bytes_stay (i := 0) (xs := [167]) (n := 1) (c := 1) rfl rfl (by omega) (by simp only [dY]; omega)) ?_
            refine jC ?_
            refine fN 9 ?_
            refine fO rfl fA ?_; refine iU _ _ _ _ ?_
            refine ⟨.inl (fun w hs => hs.weaken bU cZ), ?_⟩; refine aJ ?_
            refine eQ (R' := Sl (.slice (some ⟨b98, 0, none⟩) 1 1) ([0] : List UInt8) :: Sl (.slice (some ⟨b109, 0, none⟩) 1 1) ([167] : List UInt8) :: Sl (.slice A5 rest.length c5) rest :: R') (fun w hs => hs.weaken (List.Sublist.refl _) cZ) ?_
            exact hG b98 b109
        · skip
          refine GW.ow rfl ?_; refine bH (by decide) fD rfl (fun b109 => ?_)
          refine ⟨.inl (fun w hs => hs.weaken bU cZ), ?_⟩; refine aJ ?_
          refine eQ (fun w hs => hs.bytes_stay (i := 0) (xs := [167]) (n := 1) (c := 1) rfl rfl (by omega) (by simp only [dY]; omega)) ?_
          refine jC ?_
          refine fN 3 ?_
          refine fO rfl fA ?_; refine iU _ _ _ _ ?_
          refine ⟨.inl (fun w hs => hs.weaken bU cZ), ?_⟩; refine aJ ?_
          refine fN 9 ?_
          refine fO rfl fA ?_; refine iU _ _ _ _ ?_
          refine ⟨.inl (fun w hs => hs.weaken bU cZ), ?_⟩; refine aJ ?_
          refine eQ (R' := Sl (.slice (some ⟨b98, 0, none⟩) 1 1) ([0] : List UInt8) :: Sl (.slice (some ⟨b109, 0, none⟩) 1 1) ([167] : List UInt8) :: Sl (.slice A5 rest.length c5) rest :: R') (fun w hs => hs.weaken (List.Sublist.refl _) cZ) ?_
          exact hG b98 b109
      · skip
        refine GW.ow rfl ?_; refine bH (by decide) fD rfl (fun b109 => ?_)
        refine ⟨.inl (fun w hs => hs.weaken bU cZ), ?_⟩; refine aJ ?_
        refine eQ (fun w hs => hs.bytes_stay (i := 0) (xs := [167]) (n := 1) (c := 1) rfl rfl (by omega) (by simp only [dY]; omega)) ?_
        refine jC ?_
        refine fN 2 ?_
        refine GW.ow rfl ?_; refine bH (by decide) fD rfl (fun b98 => ?_)
        refine ⟨.inl (fun w hs => hs.weaken bU cZ), ?_⟩; refine aJ ?_
        refine eQ (fun w hs => hs.bytes_stay (i := 0) (xs := [0]) (n := 1) (c := 1) rfl rfl (by omega) (by simp only [dY]; omega)) ?_
        refine jC ?_
        refine fN 3 ?_
        refine fO rfl fA ?_; refine iU _ _ _ _ ?_
        refine ⟨.inl (fun w hs => hs.weaken bU cZ), ?_⟩; refine aJ ?_
        refine fN 9 ?_
        refine fO rfl fA ?_; refine iU _ _ _ _ ?_
        refine ⟨.inl (fun w hs => hs.weaken bU cZ), ?_⟩; refine aJ ?_
        refine eQ (R' := Sl (.slice (some ⟨b98, 0, none⟩) 1 1) ([0] : List UInt8) :: Sl (.slice (some ⟨b109, 0, none⟩) 1 1) ([167] : List UInt8) :: Sl (.slice A5 rest.length c5) rest :: R') (fun w hs => hs.weaken (List.Sublist.refl _) cZ) ?_
        exact hG b98 b109
    case hb =>
      intro b98 b109
      refine dJ _ (List.Sublist.refl _) cZ ?_
      refine fN 14 ?_
      refine fO rfl fA ?_; refine iU _ _ _ _ ?_
      refine ⟨.inl (fun w hs => hs.weaken bU cZ), ?_⟩; refine aJ ?_
      refine lL 16 ?_
      refine bH (by decide) fD rfl (fun b112 => ?_)
      refine ⟨.inl (fun w hs => hs.weaken (List.Sublist.cons _ (List.Sublist.refl _)) cZ), ?_⟩; refine aJ ?_
      all_goals ((refine bR 17 (List.Sublist.cons _ (List.Sublist.refl _)) ?_; ((refine aX ?_)); refine aJ ?_))
      all_goals ((refine bR 18 (List.Sublist.cons _ (List.Sublist.refl _)) ?_; ((refine aX ?_)); refine aJ ?_))
      all_goals refine gX ?_
      repeat' (first | (apply bN) | (apply aD))
      have k3 := sT (r' := ([⟨1, p.at_, [0]⟩, ⟨2, 0, []⟩, ⟨1, (p.at_ + 1 : Nat), rest⟩, ⟨2, 0, []⟩, ⟨1, p.at_, [167]⟩, ⟨2, 0, []⟩], 0)) (by unfold zB; rw [if_neg (by omega), HRST.out, hwB]) k2 (some ⟨b112, 0, none⟩) 6
      refine bC (.inl rfl) (jM rfl (bS rfl) (bS rfl)) (cG H2 _ (fun w hs => ?_) k3)
      have hI : dD (p.at_ : Int) ∧ dD ((p.at_ + 1 : Nat) : Int) ∧ dD 1 ∧ dD 2 ∧ dD 0 := by simp only [dD]; omega
      have h2 := (hs.learn (Cx _ ([⟨1, p.at_, [0]⟩, ⟨2, 0, []⟩, ⟨1, (p.at_ + 1 : Nat), rest⟩, ⟨2, 0, []⟩, ⟨1, p.at_, [167]⟩, ⟨2, 0, []⟩] : List DO)) (fun s hR =>
        eN (x := (⟨2, 0, []⟩ : DO)) (eN (x := (⟨1, p.at_, [167]⟩ : DO)) (eN (x := (⟨2, 0, []⟩ : DO)) (eN (x := (⟨1, (p.at_ + 1 : Nat), rest⟩ : DO)) (eN (x := (⟨2, 0, []⟩ : DO)) (Cx_one (x := (⟨1, p.at_, [0]⟩ : DO))
          ⟨some ⟨b98, 0, none⟩, 1, rfl, ⟨hI.2.2.1, hI.1⟩, hR (Sl (.slice (some ⟨b98, 0, none⟩) 1 1) ([0] : List UInt8)) aV⟩)
          ⟨none, 0, rfl, ⟨hI.2.2.2.1, hI.2.2.2.2⟩, kN UInt8 s⟩)
          ⟨A5, c5, rfl, ⟨hI.2.2.1, hI.2.1⟩, hR (Sl (.slice A5 rest.length c5) rest) aV⟩)
          ⟨none, 0, rfl, ⟨hI.2.2.2.1, hI.2.2.2.2⟩, kN UInt8 s⟩)
          ⟨some ⟨b109, 0, none⟩, 1, rfl, ⟨hI.2.2.1, hI.1⟩, hR (Sl (.slice (some ⟨b109, 0, none⟩) 1 1) ([167] : List UInt8)) aV⟩)
          ⟨none, 0, rfl, ⟨hI.2.2.2.1, hI.2.2.2.2⟩, kN UInt8 s⟩)).blk_stays (i := 0) (n := 6) (c := 6) (sp := []) rfl List.mem_cons_self rfl (by omega) (by decide)
      exact h2.weaken bU (bL List.mem_cons_self (fun p hp => List.mem_cons_of_mem _ (List.mem_cons_of_mem _ (List.mem_cons_of_mem _ (List.mem_cons_of_mem _ (List.mem_cons_of_mem _ hp))))))
end Go.Proofs.YtggdljhmbckpmaaGreat
