/- The examples' values; done: walk. The examples: walk. The law's helpers: sameBytes, sameDrive: walks. -/
import Derived.Test.YtggdljhmbckpmaaGreatEB
import Derived.Test.YtggdljhmbckpmaaGreatEC
import Derived.Test.YtggdljhmbckpmaaGreatFC
import Derived.Test.YtggdljhmbckpmaaGreatFE
import Derived.KernelRfl
import Derived.Test.YtggdljhmbckpmaaGreatAN
set_option linter.unusedVariables false
set_option linter.unusedSimpArgs false
namespace Go.Proofs.YtggdljhmbckpmaaGreat
open Go Go.RowKit
set_option maxRecDepth 100000
set_option maxHeartbeats 1600000

theorem wG {K : Value → List Hp → List MP → Prop} {H : List Hp} {R : List MP} {n : Nat} {r : List UInt8 × Int} (xs : List UInt8) (e : Int) (hr : r = (xs, e)) (hn : xs.length = n) (k : ∀ A c, K (.tuple #[.slice A n c, .int .i64 e]) H (Sl (.slice A n c) xs :: R)) : KB K r H R := by subst hr; subst hn; exact k
theorem KR_lit {K : Value → List Hp → List MP → Prop} {H : List Hp} {R : List MP} {n : Nat} {r : List RecD × Int} (xs : List RecD) (e : Int) (hr : r = (xs, e)) (hn : xs.length = n) (k : ∀ A c, K (.tuple #[.slice A n c, .int .i64 e]) H (Sl (.slice A n c) xs :: R)) : KR K r H R := by subst hr; subst hn; exact k
theorem zO {K : Value → List Hp → List MP → Prop} {H : List Hp} {R : List MP} {n : Nat} {r : List DO × Int} (xs : List DO) (e : Int) (hr : r = (xs, e)) (hn : xs.length = n) (k : ∀ A c, K (.tuple #[.slice A n c, .int .i64 e]) H (Sl (.slice A n c) xs :: R)) : KO K r H R := by subst hr; subst hn; exact k
theorem hP {K : Value → List Hp → List MP → Prop} {H : List Hp} {R : List MP} {r : Drive × Int} (d : Drive) (e : Int) (hr : r = (d, e)) (k : ∀ A c A2 c2, K (.tuple #[dv A c A2 c2 d, .int .i64 e]) H (iC A c A2 c2 d R)) : KD K r H R := by subst hr; exact k

def exD : Drive := ⟨[], []⟩
def exD0 : Drive := ⟨List.replicate 64 0, []⟩
def exR1 : List UInt8 := [1, 0, 0, 0, 0, 0, 0, 0, 1, 0, 0, 0, 149, 49, 220, 94, 7, 102, 88, 12, 2, 0]
def exR2 : List UInt8 := [2, 0, 0, 0, 0, 0, 0, 0, 3, 0, 0, 0, 228, 133, 208, 152, 1, 2, 3, 171, 55, 207, 86, 0]
def zX : List DO := [⟨1, 0, [0]⟩, ⟨2, 0, []⟩, ⟨1, 1, exR1⟩, ⟨2, 0, []⟩, ⟨1, 0, [167]⟩, ⟨2, 0, []⟩]
def exD1 : Drive := (doD exD0 zX).1
def exO2 : List DO := [⟨1, 32, [0]⟩, ⟨2, 0, []⟩, ⟨1, 33, exR2⟩, ⟨2, 0, []⟩, ⟨1, 32, [167]⟩, ⟨2, 0, []⟩]
def exD2 : Drive := (doD exD1 (exO2.take 5)).1
def exX : Drive := (oD exD2 [0]).1
def exY : Drive := (oD exD2 [1]).1
theorem q6 : e9 63 = (exD, 1) := by kernel_rfl
theorem zN : e9 64 = (exD0, 0) := by kernel_rfl
theorem ex_rec : pO exD0 = ([], 0) := by kernel_rfl
theorem aB3 : pH exD0 [7] = (zX, 0) := by kernel_rfl
theorem aB2 : pH exD1 [1, 2, 3] = (exO2, 0) := by kernel_rfl
theorem iS : oD exD2 [0] = (exX, 0) := by kernel_rfl
theorem iR : oD exD2 [1] = (exY, 0) := by kernel_rfl
theorem q8 : uA exX = ([7], 0) := by kernel_rfl
theorem q9 : uA exY = ([1, 2, 3], 0) := by kernel_rfl
theorem ex_len0 : exD0.bytes.length = 64 ∧ exD0.pending.length = 0 := ⟨by kernel_rfl, by kernel_rfl⟩
theorem ex_len1 : exD1.bytes.length = 64 ∧ exD1.pending.length = 0 := ⟨by kernel_rfl, by kernel_rfl⟩
theorem ex_len2 : exD2.bytes.length = 64 ∧ exD2.pending.length = 1 := ⟨by kernel_rfl, by kernel_rfl⟩
theorem ex_lenX : exX.bytes.length = 64 ∧ exX.pending.length = 0 := ⟨by kernel_rfl, by kernel_rfl⟩
theorem ex_lenY : exY.bytes.length = 64 ∧ exY.pending.length = 0 := ⟨by kernel_rfl, by kernel_rfl⟩

/-- A drive alone is returned, for good. -/
def zF (K : Value → List Hp → List MP → Prop) (d : Drive) (H : List Hp) (R : List MP) : Prop := ∀ A c A2 c2, K (dv A c A2 c2 d) H (iC A c A2 c2 d R)
theorem kA {w0 : World} {H : List Hp} {R : List MP} {K : Value → List Hp → List MP → Prop} (A0 : Option Addr) (c0 : Nat) (A2 : Option Addr) (c2 : Nat) (A3 : Option Addr) (m c3 : Nat) (d : Drive) (l : List DO) (hml : m = l.length) (hb : d.bytes.length ≤ 9223372036854775807) (hp : d.pending.length ≤ 9223372036854775807) (hll : l.length ≤ 9223372036854775807)
    (hm : Sl (.slice A0 d.bytes.length c0) d.bytes ∈ R) (hm2 : Sl (.slice A2 d.pending.length c2) d.pending ∈ R) (hm3 : Sl (.slice A3 m c3) l ∈ R)
    (k : zF K (doD d l).1 H R) : CallsK Tryz.prog w0 26 #[dv A0 c0 A2 c2 d, .slice A3 m c3] H R K := by
  subst hml
  refine bX Tryz.func26 rfl Tryz.ntmps26 eZ ?_
  repeat' (first | (refine dS rfl ?_; refine aY fA ?_; refine do_k _ _ _ _ _ _ d l hb hp hll hm hm2 hm3 (fun A c A2 c2 => ?_); refine aB ?_) | (apply aF) | (apply aA) | (apply bN) | (apply aG) | (apply aD) | (apply aP; exact rfl; ((first | refine aM (i := 0) rfl rfl rfl ?_ | refine aM (i := 1) rfl rfl rfl ?_)); refine aB ?_) | (apply bD; exact rfl; ((first | refine aO (i := 0) rfl cW rfl (by rfl) (by simp) (by simp [Value.oneCell']) ?_ | refine aO (i := 1) rfl cW rfl (by rfl) (by simp) (by simp [Value.oneCell']) ?_)); refine aB ?_; refine cA ?_) | (refine aE rfl rfl ?_; ((first | refine aH ?_ | refine aX ?_ | refine cD rfl rfl ?_)); refine aB ?_) | (refine bG rfl rfl ?_; ((first | refine eB cW (fun b => ?_) | refine bK cW (fun b => ?_))); refine aB ?_))
  refine bC (.inl rfl) (dM rfl (dG (i := 1) rfl rfl rfl)) (cG H _ (fun w hs => hs.weaken bU (fun _ h => h)) (k A c A2 c2))

section
variable {F : Fence} {n : Nat} {P : Program} {w0 : World} {D : List Deferred} {ops : Array Oper} {Q : Exit → Act → World → Prop} {rest : List Oper} {E : List Value} {H : List Hp} {R : List MP}
theorem tI (xs : List UInt8) {b : Nat} {cs : List Value} {T' : TypeId} (hc : cs = bA xs) (hl : xs.length ≤ 1000) (k : T F n P w0 D ops Q rest E H (Sl (.slice (some ⟨b, 0, none⟩) xs.length xs.length) xs :: R)) : T F n P w0 D ops Q rest E (.blk b cs T' :: H) R := eF _ _ (fun w hs => by
  subst hc
  exact hs.bytes_stay (i := 0) (xs := xs) (n := xs.length) (c := xs.length) rfl rfl (Nat.le_refl _) (by simp only [dY]; omega)) k
theorem S.ints_stay {w : World} (xs : List Int) {b : Nat} {cs : List Value} {T' : TypeId} (hc : cs = mG xs) (h : ∀ x ∈ xs, dD x) (hl : xs.length ≤ 1000) (hs : S w0 w (.blk b cs T' :: H) R) : S w0 w H (Sl (.slice (some ⟨b, 0, none⟩) xs.length xs.length) xs :: R) := by
  subst hc
  exact ((hs.learn (Cx (mG xs) xs) (fun s _ => wV xs h s)).blk_stays (i := 0) (b := b) (T := T') (cs := mG xs) (n := xs.length) (c := xs.length) (sp := []) (by simp) List.mem_cons_self rfl (Nat.le_refl _) (by simp only [dY]; omega)).weaken (List.Sublist.refl _) (bL List.mem_cons_self (fun p hp => List.mem_cons_of_mem _ (List.mem_cons_of_mem _ hp)))
end
theorem cutD {G : Option Addr → Nat → Option Addr → Nat → Nat → Nat → Option Addr → Nat → Option Addr → Nat → Prop} {p : Prop} (h : (∀ a b c d e f g h i j, G a b c d e f g h i j) → p) (k : ∀ a b c d e f g h i j, G a b c d e f g h i j) : p := h k
end Go.Proofs.YtggdljhmbckpmaaGreat
namespace Go.Proofs.YtggdljhmbckpmaaGreat
open Go Go.RowKit
set_option maxRecDepth 100000
set_option maxHeartbeats 8000000

theorem sane_k {w0 : World} {H : List Hp} {R : List MP} {K : Value → List Hp → List MP → Prop} (k : K (.bool true) H R) : CallsK Tryz.prog w0 6 #[] H R K := by
  refine bX Tryz.func6 rfl Tryz.ntmps6 eZ ?_
  repeat' (first | (apply aF) | (apply aA) | (apply aG) | (apply aD) | (refine aE rfl rfl ?_; ((first | refine aX ?_ | refine dN gI ?_)); refine aB ?_))
  refine dS rfl ?_; refine aY fA ?_; refine yH (wG encZ 0 rfl (n := 19) rfl (fun Ab cb => ?_)); refine aB ?_
  repeat' (first | (apply aF) | (apply aA) | (apply aG) | (apply aD) | (refine aE rfl rfl ?_; ((first | refine aH ?_ | refine aX ?_ | refine cD rfl rfl ?_)); refine aB ?_) | (refine bG rfl rfl ?_; ((refine bH (by decide) fD rfl (fun b => ?_))); refine aB ?_))
  refine tI [109, 97, 2] rfl (by decide) ?_
  refine dS rfl ?_; refine aY fA ?_; refine wH _ _ aV ?_; simp only [machZ]; refine aB ?_
  repeat' (first | (apply aF) | (apply aA) | (apply aG) | (apply aD) | (apply bD; exact rfl; ((refine aO (i := 0) rfl cW rfl (by rfl) (by simp) (by simp [Value.oneCell']) ?_)); refine aB ?_; refine cA ?_) | (refine aE rfl rfl ?_; ((first | refine aH ?_ | refine aX ?_ | refine cD rfl rfl ?_)); refine aB ?_) | (refine bG rfl rfl ?_; ((refine bK cW (fun b => ?_))); refine aB ?_))
  refine dS rfl ?_; refine aY fA ?_; refine rM 63 (by simp [dD]) (hP exD 1 q6 (fun A1 c1 A2 c2 => ?_)); refine aB ?_
  repeat' (first | (apply aF) | (apply aA) | (apply aG) | (apply aD) | (apply bD; exact rfl; ((refine aO (i := 0) rfl cW rfl (by rfl) (by simp) (by simp [Value.oneCell']) ?_)); refine aB ?_; refine cA ?_) | (refine aE rfl rfl ?_; ((first | refine aH ?_ | refine aX ?_ | refine cD rfl rfl ?_)); refine aB ?_) | (refine bG rfl rfl ?_; ((refine bK cW (fun b => ?_))); refine aB ?_))
  refine dS rfl ?_; refine aY fA ?_; refine rM 64 (by simp [dD]) (hP exD0 0 zN (fun A3 c3 A4 c4 => ?_)); refine aB ?_
  repeat' (first | (apply aF) | (apply aA) | (apply aG) | (apply aD) | (apply aP; exact rfl; ((refine aM (i := 0) rfl rfl rfl ?_)); refine aB ?_) | (apply bD; exact rfl; ((refine aO (i := 0) rfl cW rfl (by rfl) (by simp) (by simp [Value.oneCell']) ?_)); refine aB ?_; refine cA ?_) | (refine aE rfl rfl ?_; ((first | refine aH ?_ | refine aX ?_ | refine cD rfl rfl ?_)); refine aB ?_) | (refine bG rfl rfl ?_; ((refine bK cW (fun b => ?_))); refine aB ?_))
  revert b
  intro b8
  refine dS rfl ?_; refine aY fA ?_; refine zE A3 c3 A4 c4 exD0 (by rw [ex_len0.1]; decide) (by rw [ex_len0.2]; decide) aV aV (KR_lit [] 0 ex_rec (n := 0) rfl (fun A5 c5 => ?_)); refine aB ?_
  repeat' (first | (apply aU; exact rfl; refine eL rfl rfl (fun h => absurd rfl h) (fun _ => ?_); refine aB ?_) | (refine aE rfl rfl ?_; refine fU (v := .slice _ 19 _) (xs := encZ) rfl rfl uD rfl (by decide) (fun b o => ?_); refine aB ?_) | (apply aF) | (apply aA) | (apply bE) | (apply aI; exact rfl) | (apply aG) | (apply aD) | (apply aP; exact rfl; ((first | refine aM (i := 0) rfl rfl rfl ?_ | refine aZ rfl cJ rfl ?_)); refine aB ?_) | (refine aE rfl rfl ?_; ((first | refine aH ?_ | refine aX ?_ | refine cI rfl eJ ?_ | refine bQ rfl ?_ | refine cD rfl rfl ?_)); refine aB ?_) | (refine bG rfl rfl ?_; ((refine bH (by decide) fD rfl (fun b => ?_))); refine aB ?_))
  refine tI [7] rfl (by decide) ?_
  refine dS rfl ?_; refine aY fA ?_; refine uQ A3 c3 A4 c4 _ _ exD0 [7] (by rw [ex_len0.1]; decide) (by rw [ex_len0.2]; decide) (by decide) aV aV aV (zO zX 0 aB3 (n := 6) rfl (fun A6 c6 => ?_)); refine aB ?_
  repeat' (first | (apply aU; exact rfl; refine eL rfl rfl (fun h => absurd rfl h) (fun _ => ?_); refine aB ?_) | (refine aE rfl rfl ?_; refine mL (xs := zX) rfl rfl uD rfl (by decide) (fun b o A c h1 h2 h3 => ?_); refine aB ?_) | (refine aE rfl rfl ?_; refine fU (v := .slice _ 22 _) (xs := exR1) rfl rfl uD rfl (by decide) (fun b o => ?_); refine aB ?_) | (refine aE rfl rfl ?_; refine fU (v := .slice _ 1 _) (xs := [167]) rfl rfl uD rfl (by decide) (fun b o => ?_); refine aB ?_) | (apply aF) | (apply aA) | (apply bE) | (apply aI; exact rfl) | (apply aG) | (apply aD) | (apply aP; exact rfl; ((first | refine aM (i := 0) rfl rfl rfl ?_ | refine aQ rfl cJ rfl ?_ | refine aZ rfl cJ rfl ?_)); refine aB ?_) | (refine aE rfl rfl ?_; ((first | refine aH ?_ | refine aX ?_ | refine cI rfl eJ ?_ | refine aC rfl ?_ | refine bQ rfl ?_ | refine cD rfl rfl ?_)); refine aB ?_))
  refine dS rfl ?_; refine aY fA ?_; refine kA A3 c3 A4 c4 A6 6 c6 exD0 zX rfl (by rw [ex_len0.1]; decide) (by rw [ex_len0.2]; decide) (by decide) aV aV aV (show zF _ exD1 _ _ from fun A7 c7 A8 c8 => ?_); refine aB ?_
  repeat' (first | (apply aF) | (apply aA) | (apply aG) | (apply aD) | (apply aP; exact rfl; ((refine aM (i := 0) rfl rfl rfl ?_)); refine aB ?_) | (apply bD; exact rfl; ((refine aO (i := 0) rfl cW rfl (by rfl) (by simp) (by simp [Value.oneCell']) ?_)); refine aB ?_; refine cA ?_) | (refine bG rfl rfl ?_; ((refine bH (by decide) fD rfl (fun b => ?_))); refine aB ?_))
  refine tI [1, 2, 3] rfl (by decide) ?_
  refine dS rfl ?_; refine aY fA ?_; refine uQ A7 c7 A8 c8 _ _ exD1 [1, 2, 3] (by rw [ex_len1.1]; decide) (by rw [ex_len1.2]; decide) (by decide) aV aV aV (zO exO2 0 aB2 (n := 6) rfl (fun A9 c9 => ?_)); refine aB ?_
  repeat' (first | (apply aU; exact rfl; refine eL rfl rfl (fun h => absurd rfl h) (fun _ => ?_); refine aB ?_) | (refine aE rfl rfl ?_; refine mL (xs := exO2) rfl rfl uD rfl (by decide) (fun b o A c h1 h2 h3 => ?_); refine aB ?_) | (refine aE rfl rfl ?_; refine fU (v := .slice _ 24 _) (xs := exR2) rfl rfl uD rfl (by decide) (fun b o => ?_); refine aB ?_) | (apply aF) | (apply aA) | (apply bE) | (apply aI; exact rfl) | (apply aG) | (apply aD) | (apply aP; exact rfl; ((first | refine aQ rfl cJ rfl ?_ | refine aZ rfl cJ rfl ?_)); refine aB ?_) | (refine aE rfl rfl ?_; ((first | refine aH ?_ | refine aX ?_ | refine cI rfl eJ ?_ | refine aC rfl ?_ | refine bQ rfl ?_ | refine cD rfl rfl ?_)); refine aB ?_))
  refine dT (.blk b8 [.slice A7 exD1.bytes.length c7, .slice A8 exD1.pending.length c8] 51 :: H) (iC A7 c7 A8 c8 exD1 (Sl (.slice A9 6 c9) exO2 :: R)) (fun w hs => hs.weaken bU cZ) ?_
  refine dQ eT (by decide +kernel) (fun _ _ _ _ _ _ h => h) bU ?_
  all_goals ((refine bR 0 bU ?_; ((refine aM (i := 0) rfl rfl rfl ?_)); refine aJ ?_))
  all_goals ((refine bR 1 bU ?_; ((refine aH ?_)); refine aJ ?_))
  all_goals ((refine bR 2 bU ?_; ((refine fP (xs := exO2) rfl aV rfl rfl rfl rfl (by decide) (by decide) (by decide) (fun A10 c10 => ?_))); refine aJ ?_))
  -- left: [3, 4, 5, 6, 7, 8, 9, 10, 11]; ready: [3, 4, 9]: ['call', 'buildSlice', 'alloc']
  refine cutD (G := ?G15) ?ha15 ?hb15
  case ha15 =>
    intro hG
    refine dJ _ (List.Sublist.refl _) cZ ?_
    refine TA_3 3 4 9 ?_ ?_ ?_
    · skip
      refine aY fA ?_; refine kA A7 c7 A8 c8 A10 _ c10 exD1 ((exO2.take (5 : Int).toNat).drop (0 : Int).toNat) rfl (by rw [ex_len1.1]; decide) (by rw [ex_len1.2]; decide) (by decide) aV aV aV (show zF _ exD2 _ _ from fun Ad cd Ad2 cd2 => ?_)
      refine ⟨.inl (fun w hs => hs.weaken bU cZ), ?_⟩; refine aJ ?_
      refine nV 4 9 ?_ ?_
      · skip
        refine GW.ow rfl ?_; refine bH (by decide) fD rfl (fun bB => ?_)
        refine ⟨.inl (fun w hs => hs.weaken bU cZ), ?_⟩; refine aJ ?_
        refine eQ (fun w hs => hs.ints_stay [0] rfl (by intro x hx; simp at hx; subst hx; simp [dD]) (by decide)) ?_
        refine nV 5 9 ?_ ?_
        · skip
          refine aY fA ?_; refine gG Ad cd Ad2 cd2 _ _ exD2 [0] (by rw [ex_len2.1]; decide) (by rw [ex_len2.2]; decide) (by decide) aV aV aV (hP exX 0 iS (fun Au cu Au2 cu2 => ?_))
          refine ⟨.inl (fun w hs => hs.weaken bU cZ), ?_⟩; refine aJ ?_
          refine dJ _ (List.Sublist.refl _) cZ ?_
          all_goals (refine bR 6 bU ?_; ((refine aH ?_)); refine aJ ?_)
          all_goals (refine bR 7 bU ?_; ((refine cD rfl rfl ?_)); refine aJ ?_)
          all_goals (refine bR 8 bU ?_; ((refine cD rfl rfl ?_)); refine aJ ?_)
          refine fN 9 ?_
          refine GW.ow rfl ?_; refine bK cW (fun bZ => ?_)
          refine ⟨.inl (fun w hs => hs.weaken bU cZ), ?_⟩; refine aJ ?_
          refine eQ (H' := .blk bZ [.slice none 0 0, .slice none 0 0] 51 :: .blk b8 [.slice A7 exD1.bytes.length c7, .slice A8 exD1.pending.length c8] 51 :: H) (R' := iC Au cu Au2 cu2 exX (iC Ad cd Ad2 cd2 exD2 (Sl (.slice (some ⟨bB, 0, none⟩) ([0] : List Int).length ([0] : List Int).length) ([0] : List Int) :: Sl (.slice A10 ((5 : Int).toNat - (0 : Int).toNat) c10) ((exO2.take (5 : Int).toNat).drop (0 : Int).toNat) :: iC A7 c7 A8 c8 exD1 (Sl (.slice A9 6 c9) exO2 :: R)))) (fun w hs => hs.weaken bU cZ) ?_
          refine dJ _ (List.Sublist.refl _) cZ ?_
          exact hG Ad cd Ad2 cd2 bB bZ Au cu Au2 cu2
        · skip
          refine GW.ow rfl ?_; refine bK cW (fun bZ => ?_)
          refine ⟨.inl (fun w hs => hs.weaken bU cZ), ?_⟩; refine aJ ?_
          refine fN 5 ?_
          refine aY fA ?_; refine gG Ad cd Ad2 cd2 _ _ exD2 [0] (by rw [ex_len2.1]; decide) (by rw [ex_len2.2]; decide) (by decide) aV aV aV (hP exX 0 iS (fun Au cu Au2 cu2 => ?_))
          refine ⟨.inl (fun w hs => hs.weaken bU cZ), ?_⟩; refine aJ ?_
          refine dJ _ (List.Sublist.refl _) cZ ?_
          all_goals (refine bR 6 bU ?_; ((refine aH ?_)); refine aJ ?_)
          all_goals (refine bR 7 bU ?_; ((refine cD rfl rfl ?_)); refine aJ ?_)
          all_goals (refine bR 8 bU ?_; ((refine cD rfl rfl ?_)); refine aJ ?_)
          refine eQ (H' := .blk bZ [.slice none 0 0, .slice none 0 0] 51 :: .blk b8 [.slice A7 exD1.bytes.length c7, .slice A8 exD1.pending.length c8] 51 :: H) (R' := iC Au cu Au2 cu2 exX (iC Ad cd Ad2 cd2 exD2 (Sl (.slice (some ⟨bB, 0, none⟩) ([0] : List Int).length ([0] : List Int).length) ([0] : List Int) :: Sl (.slice A10 ((5 : Int).toNat - (0 : Int).toNat) c10) ((exO2.take (5 : Int).toNat).drop (0 : Int).toNat) :: iC A7 c7 A8 c8 exD1 (Sl (.slice A9 6 c9) exO2 :: R)))) (fun w hs => hs.weaken bU cZ) ?_
          refine dJ _ (List.Sublist.refl _) cZ ?_
          exact hG Ad cd Ad2 cd2 bB bZ Au cu Au2 cu2
      · skip
        refine GW.ow rfl ?_; refine bK cW (fun bZ => ?_)
        refine ⟨.inl (fun w hs => hs.weaken bU cZ), ?_⟩; refine aJ ?_
        refine fN 4 ?_
        refine GW.ow rfl ?_; refine bH (by decide) fD rfl (fun bB => ?_)
        refine ⟨.inl (fun w hs => hs.weaken bU cZ), ?_⟩; refine aJ ?_
        refine eQ (fun w hs => hs.ints_stay [0] rfl (by intro x hx; simp at hx; subst hx; simp [dD]) (by decide)) ?_
        refine fN 5 ?_
        refine aY fA ?_; refine gG Ad cd Ad2 cd2 _ _ exD2 [0] (by rw [ex_len2.1]; decide) (by rw [ex_len2.2]; decide) (by decide) aV aV aV (hP exX 0 iS (fun Au cu Au2 cu2 => ?_))
        refine ⟨.inl (fun w hs => hs.weaken bU cZ), ?_⟩; refine aJ ?_
        refine dJ _ (List.Sublist.refl _) cZ ?_
        all_goals (refine bR 6 bU ?_; ((refine aH ?_)); refine aJ ?_)
        all_goals (refine bR 7 bU ?_; ((refine cD rfl rfl ?_)); refine aJ ?_)
        all_goals (refine bR 8 bU ?_; ((refine cD rfl rfl ?_)); refine aJ ?_)
        refine eQ (H' := .blk bZ [.slice none 0 0, .slice none 0 0] 51 :: .blk b8 [.slice A7 exD1.bytes.length c7, .slice A8 exD1.pending.length c8] 51 :: H) (R' := iC Au cu Au2 cu2 exX (iC Ad cd Ad2 cd2 exD2 (Sl (.slice (some ⟨bB, 0, none⟩) ([0] : List Int).length ([0] : List Int).length) ([0] : List Int) :: Sl (.slice A10 ((5 : Int).toNat - (0 : Int).toNat) c10) ((exO2.take (5 : Int).toNat).drop (0 : Int).toNat) :: iC A7 c7 A8 c8 exD1 (Sl (.slice A9 6 c9) exO2 :: R)))) (fun w hs => hs.weaken bU cZ) ?_
        refine dJ _ (List.Sublist.refl _) cZ ?_
        exact hG Ad cd Ad2 cd2 bB bZ Au cu Au2 cu2
    · skip
      refine GW.ow rfl ?_; refine bH (by decide) fD rfl (fun bB => ?_)
      refine ⟨.inl (fun w hs => hs.weaken bU cZ), ?_⟩; refine aJ ?_
      refine eQ (fun w hs => hs.ints_stay [0] rfl (by intro x hx; simp at hx; subst hx; simp [dD]) (by decide)) ?_
      refine nV 3 9 ?_ ?_
      · skip
        refine aY fA ?_; refine kA A7 c7 A8 c8 A10 _ c10 exD1 ((exO2.take (5 : Int).toNat).drop (0 : Int).toNat) rfl (by rw [ex_len1.1]; decide) (by rw [ex_len1.2]; decide) (by decide) aV aV aV (show zF _ exD2 _ _ from fun Ad cd Ad2 cd2 => ?_)
        refine ⟨.inl (fun w hs => hs.weaken bU cZ), ?_⟩; refine aJ ?_
        refine nV 5 9 ?_ ?_
        · skip
          refine aY fA ?_; refine gG Ad cd Ad2 cd2 _ _ exD2 [0] (by rw [ex_len2.1]; decide) (by rw [ex_len2.2]; decide) (by decide) aV aV aV (hP exX 0 iS (fun Au cu Au2 cu2 => ?_))
          refine ⟨.inl (fun w hs => hs.weaken bU cZ), ?_⟩; refine aJ ?_
          refine dJ _ (List.Sublist.refl _) cZ ?_
          all_goals (refine bR 6 bU ?_; ((refine aH ?_)); refine aJ ?_)
          all_goals (refine bR 7 bU ?_; ((refine cD rfl rfl ?_)); refine aJ ?_)
          all_goals (refine bR 8 bU ?_; ((refine cD rfl rfl ?_)); refine aJ ?_)
          refine fN 9 ?_
          refine GW.ow rfl ?_; refine bK cW (fun bZ => ?_)
          refine ⟨.inl (fun w hs => hs.weaken bU cZ), ?_⟩; refine aJ ?_
          refine eQ (H' := .blk bZ [.slice none 0 0, .slice none 0 0] 51 :: .blk b8 [.slice A7 exD1.bytes.length c7, .slice A8 exD1.pending.length c8] 51 :: H) (R' := iC Au cu Au2 cu2 exX (iC Ad cd Ad2 cd2 exD2 (Sl (.slice (some ⟨bB, 0, none⟩) ([0] : List Int).length ([0] : List Int).length) ([0] : List Int) :: Sl (.slice A10 ((5 : Int).toNat - (0 : Int).toNat) c10) ((exO2.take (5 : Int).toNat).drop (0 : Int).toNat) :: iC A7 c7 A8 c8 exD1 (Sl (.slice A9 6 c9) exO2 :: R)))) (fun w hs => hs.weaken bU cZ) ?_
          refine dJ _ (List.Sublist.refl _) cZ ?_
          exact hG Ad cd Ad2 cd2 bB bZ Au cu Au2 cu2
        · skip
          refine GW.ow rfl ?_; refine bK cW (fun bZ => ?_)
          refine ⟨.inl (fun w hs => hs.weaken bU cZ), ?_⟩; refine aJ ?_
          refine fN 5 ?_
          refine aY fA ?_; refine gG Ad cd Ad2 cd2 _ _ exD2 [0] (by rw [ex_len2.1]; decide) (by rw [ex_len2.2]; decide) (by decide) aV aV aV (hP exX 0 iS (fun Au cu Au2 cu2 => ?_))
          refine ⟨.inl (fun w hs => hs.weaken bU cZ), ?_⟩; refine aJ ?_
          refine dJ _ (List.Sublist.refl _) cZ ?_
          all_goals (refine bR 6 bU ?_; ((refine aH ?_)); refine aJ ?_)
          all_goals (refine bR 7 bU ?_; ((refine cD rfl rfl ?_)); refine aJ ?_)
          all_goals (refine bR 8 bU ?_; ((refine cD rfl rfl ?_)); refine aJ ?_)
          refine eQ (H' := .blk bZ [.slice none 0 0, .slice none 0 0] 51 :: .blk b8 [.slice A7 exD1.bytes.length c7, .slice A8 exD1.pending.length c8] 51 :: H) (R' := iC Au cu Au2 cu2 exX (iC Ad cd Ad2 cd2 exD2 (Sl (.slice (some ⟨bB, 0, none⟩) ([0] : List Int).length ([0] : List Int).length) ([0] : List Int) :: Sl (.slice A10 ((5 : Int).toNat - (0 : Int).toNat) c10) ((exO2.take (5 : Int).toNat).drop (0 : Int).toNat) :: iC A7 c7 A8 c8 exD1 (Sl (.slice A9 6 c9) exO2 :: R)))) (fun w hs => hs.weaken bU cZ) ?_
          refine dJ _ (List.Sublist.refl _) cZ ?_
          exact hG Ad cd Ad2 cd2 bB bZ Au cu Au2 cu2
      · skip
        refine GW.ow rfl ?_; refine bK cW (fun bZ => ?_)
        refine ⟨.inl (fun w hs => hs.weaken bU cZ), ?_⟩; refine aJ ?_
        refine fN 3 ?_
        refine aY fA ?_; refine kA A7 c7 A8 c8 A10 _ c10 exD1 ((exO2.take (5 : Int).toNat).drop (0 : Int).toNat) rfl (by rw [ex_len1.1]; decide) (by rw [ex_len1.2]; decide) (by decide) aV aV aV (show zF _ exD2 _ _ from fun Ad cd Ad2 cd2 => ?_)
        refine ⟨.inl (fun w hs => hs.weaken bU cZ), ?_⟩; refine aJ ?_
        refine fN 5 ?_
        refine aY fA ?_; refine gG Ad cd Ad2 cd2 _ _ exD2 [0] (by rw [ex_len2.1]; decide) (by rw [ex_len2.2]; decide) (by decide) aV aV aV (hP exX 0 iS (fun Au cu Au2 cu2 => ?_))
        refine ⟨.inl (fun w hs => hs.weaken bU cZ), ?_⟩; refine aJ ?_
        refine dJ _ (List.Sublist.refl _) cZ ?_
        all_goals (refine bR 6 bU ?_; ((refine aH ?_)); refine aJ ?_)
        all_goals (refine bR 7 bU ?_; ((refine cD rfl rfl ?_)); refine aJ ?_)
        all_goals (refine bR 8 bU ?_; ((refine cD rfl rfl ?_)); refine aJ ?_)
        refine eQ (H' := .blk bZ [.slice none 0 0, .slice none 0 0] 51 :: .blk b8 [.slice A7 exD1.bytes.length c7, .slice A8 exD1.pending.length c8] 51 :: H) (R' := iC Au cu Au2 cu2 exX (iC Ad cd Ad2 cd2 exD2 (Sl (.slice (some ⟨bB, 0, none⟩) ([0] : List Int).length ([0] : List Int).length) ([0] : List Int) :: Sl (.slice A10 ((5 : Int).toNat - (0 : Int).toNat) c10) ((exO2.take (5 : Int).toNat).drop (0 : Int).toNat) :: iC A7 c7 A8 c8 exD1 (Sl (.slice A9 6 c9) exO2 :: R)))) (fun w hs => hs.weaken bU cZ) ?_
        refine dJ _ (List.Sublist.refl _) cZ ?_
        exact hG Ad cd Ad2 cd2 bB bZ Au cu Au2 cu2
    · skip
      refine GW.ow rfl ?_; refine bK cW (fun bZ => ?_)
      refine ⟨.inl (fun w hs => hs.weaken bU cZ), ?_⟩; refine aJ ?_
      refine nV 3 4 ?_ ?_
      · skip
        refine aY fA ?_; refine kA A7 c7 A8 c8 A10 _ c10 exD1 ((exO2.take (5 : Int).toNat).drop (0 : Int).toNat) rfl (by rw [ex_len1.1]; decide) (by rw [ex_len1.2]; decide) (by decide) aV aV aV (show zF _ exD2 _ _ from fun Ad cd Ad2 cd2 => ?_)
        refine ⟨.inl (fun w hs => hs.weaken bU cZ), ?_⟩; refine aJ ?_
        refine fN 4 ?_
        refine GW.ow rfl ?_; refine bH (by decide) fD rfl (fun bB => ?_)
        refine ⟨.inl (fun w hs => hs.weaken bU cZ), ?_⟩; refine aJ ?_
        refine eQ (fun w hs => hs.ints_stay [0] rfl (by intro x hx; simp at hx; subst hx; simp [dD]) (by decide)) ?_
        refine fN 5 ?_
        refine aY fA ?_; refine gG Ad cd Ad2 cd2 _ _ exD2 [0] (by rw [ex_len2.1]; decide) (by rw [ex_len2.2]; decide) (by decide) aV aV aV (hP exX 0 iS (fun Au cu Au2 cu2 => ?_))
        refine ⟨.inl (fun w hs => hs.weaken bU cZ), ?_⟩; refine aJ ?_
        refine dJ _ (List.Sublist.refl _) cZ ?_
        all_goals (refine bR 6 bU ?_; ((refine aH ?_)); refine aJ ?_)
        all_goals (refine bR 7 bU ?_; ((refine cD rfl rfl ?_)); refine aJ ?_)
        all_goals (refine bR 8 bU ?_; ((refine cD rfl rfl ?_)); refine aJ ?_)
        refine eQ (H' := .blk bZ [.slice none 0 0, .slice none 0 0] 51 :: .blk b8 [.slice A7 exD1.bytes.length c7, .slice A8 exD1.pending.length c8] 51 :: H) (R' := iC Au cu Au2 cu2 exX (iC Ad cd Ad2 cd2 exD2 (Sl (.slice (some ⟨bB, 0, none⟩) ([0] : List Int).length ([0] : List Int).length) ([0] : List Int) :: Sl (.slice A10 ((5 : Int).toNat - (0 : Int).toNat) c10) ((exO2.take (5 : Int).toNat).drop (0 : Int).toNat) :: iC A7 c7 A8 c8 exD1 (Sl (.slice A9 6 c9) exO2 :: R)))) (fun w hs => hs.weaken bU cZ) ?_
        refine dJ _ (List.Sublist.refl _) cZ ?_
        exact hG Ad cd Ad2 cd2 bB bZ Au cu Au2 cu2
      · skip
        refine GW.ow rfl ?_; refine bH (by decide) fD rfl (fun bB => ?_)
        refine ⟨.inl (fun w hs => hs.weaken bU cZ), ?_⟩; refine aJ ?_
        refine eQ (fun w hs => hs.ints_stay [0] rfl (by intro x hx; simp at hx; subst hx; simp [dD]) (by decide)) ?_
        refine fN 3 ?_
        refine aY fA ?_; refine kA A7 c7 A8 c8 A10 _ c10 exD1 ((exO2.take (5 : Int).toNat).drop (0 : Int).toNat) rfl (by rw [ex_len1.1]; decide) (by rw [ex_len1.2]; decide) (by decide) aV aV aV (show zF _ exD2 _ _ from fun Ad cd Ad2 cd2 => ?_)
        refine ⟨.inl (fun w hs => hs.weaken bU cZ), ?_⟩; refine aJ ?_
        refine fN 5 ?_
        refine aY fA ?_; refine gG Ad cd Ad2 cd2 _ _ exD2 [0] (by rw [ex_len2.1]; decide) (by rw [ex_len2.2]; decide) (by decide) aV aV aV (hP exX 0 iS (fun Au cu Au2 cu2 => ?_))
        refine ⟨.inl (fun w hs => hs.weaken bU cZ), ?_⟩; refine aJ ?_
        refine dJ _ (List.Sublist.refl _) cZ ?_
        all_goals (refine bR 6 bU ?_; ((refine aH ?_)); refine aJ ?_)
        all_goals (refine bR 7 bU ?_; ((refine cD rfl rfl ?_)); refine aJ ?_)
        all_goals (refine bR 8 bU ?_; ((refine cD rfl rfl ?_)); refine aJ ?_)
        refine eQ (H' := .blk bZ [.slice none 0 0, .slice none 0 0] 51 :: .blk b8 [.slice A7 exD1.bytes.length c7, .slice A8 exD1.pending.length c8] 51 :: H) (R' := iC Au cu Au2 cu2 exX (iC Ad cd Ad2 cd2 exD2 (Sl (.slice (some ⟨bB, 0, none⟩) ([0] : List Int).length ([0] : List Int).length) ([0] : List Int) :: Sl (.slice A10 ((5 : Int).toNat - (0 : Int).toNat) c10) ((exO2.take (5 : Int).toNat).drop (0 : Int).toNat) :: iC A7 c7 A8 c8 exD1 (Sl (.slice A9 6 c9) exO2 :: R)))) (fun w hs => hs.weaken bU cZ) ?_
        refine dJ _ (List.Sublist.refl _) cZ ?_
        exact hG Ad cd Ad2 cd2 bB bZ Au cu Au2 cu2
  case hb15 =>
    intro Ad cd Ad2 cd2 bB bZx Ax cx Ax2 cx2
    refine dJ _ (List.Sublist.refl _) cZ ?_
    refine lL 10 ?_
    refine aO (i := 0) rfl cW rfl (by rfl) (by simp) (by simp [Value.oneCell']) ?_
    refine ⟨.inl (fun w hs => hs.weaken bU cZ), ?_⟩
    refine aJ ?_
    refine jC ?_
    all_goals ((refine bR 11 bU ?_; ((refine aX ?_)); refine aJ ?_))
    all_goals refine gX ?_
    apply aD
    refine dT (.blk bZx [.slice Ax exX.bytes.length cx, .slice Ax2 exX.pending.length cx2] 51 :: .blk b8 [.slice A7 exD1.bytes.length c7, .slice A8 exD1.pending.length c8] 51 :: H) (iC Ax cx Ax2 cx2 exX (iC A7 c7 A8 c8 exD1 (Sl (.slice A9 6 c9) exO2 :: R))) (fun w hs => hs.weaken bU cZ) ?_
    apply aF
    refine dQ eT (by decide +kernel) (fun _ _ _ _ _ _ h => h) bU ?_
    all_goals ((refine bR 0 bU ?_; ((refine aM (i := 1) rfl rfl rfl ?_)); refine aJ ?_))
    all_goals ((refine bR 1 bU ?_; ((refine aH ?_)); refine aJ ?_))
    all_goals ((refine bR 2 bU ?_; ((refine fP (xs := exO2) rfl aV rfl rfl rfl rfl (by decide) (by decide) (by decide) (fun A10 c10 => ?_))); refine aJ ?_))
    -- left: [3, 4, 5, 6, 7, 8, 9, 10, 11]; ready: [3, 4, 9]: ['call', 'buildSlice', 'alloc']
    refine cutD (G := ?G16) ?ha16 ?hb16
    case ha16 =>
      intro hG
      refine dJ _ (List.Sublist.refl _) cZ ?_
      refine TA_3 3 4 9 ?_ ?_ ?_
      · skip
        refine aY fA ?_; refine kA A7 c7 A8 c8 A10 _ c10 exD1 ((exO2.take (5 : Int).toNat).drop (0 : Int).toNat) rfl (by rw [ex_len1.1]; decide) (by rw [ex_len1.2]; decide) (by decide) aV aV aV (show zF _ exD2 _ _ from fun Ad cd Ad2 cd2 => ?_)
        refine ⟨.inl (fun w hs => hs.weaken bU cZ), ?_⟩; refine aJ ?_
        refine nV 4 9 ?_ ?_
        · skip
          refine GW.ow rfl ?_; refine bH (by decide) fD rfl (fun bB => ?_)
          refine ⟨.inl (fun w hs => hs.weaken bU cZ), ?_⟩; refine aJ ?_
          refine eQ (fun w hs => hs.ints_stay [1] rfl (by intro x hx; simp at hx; subst hx; simp [dD]) (by decide)) ?_
          refine nV 5 9 ?_ ?_
          · skip
            refine aY fA ?_; refine gG Ad cd Ad2 cd2 _ _ exD2 [1] (by rw [ex_len2.1]; decide) (by rw [ex_len2.2]; decide) (by decide) aV aV aV (hP exY 0 iR (fun Au cu Au2 cu2 => ?_))
            refine ⟨.inl (fun w hs => hs.weaken bU cZ), ?_⟩; refine aJ ?_
            refine dJ _ (List.Sublist.refl _) cZ ?_
            all_goals (refine bR 6 bU ?_; ((refine aH ?_)); refine aJ ?_)
            all_goals (refine bR 7 bU ?_; ((refine cD rfl rfl ?_)); refine aJ ?_)
            all_goals (refine bR 8 bU ?_; ((refine cD rfl rfl ?_)); refine aJ ?_)
            refine fN 9 ?_
            refine GW.ow rfl ?_; refine bK cW (fun bZ => ?_)
            refine ⟨.inl (fun w hs => hs.weaken bU cZ), ?_⟩; refine aJ ?_
            refine eQ (H' := .blk bZ [.slice none 0 0, .slice none 0 0] 51 :: .blk bZx [.slice Ax exX.bytes.length cx, .slice Ax2 exX.pending.length cx2] 51 :: .blk b8 [.slice A7 exD1.bytes.length c7, .slice A8 exD1.pending.length c8] 51 :: H) (R' := iC Au cu Au2 cu2 exY (iC Ad cd Ad2 cd2 exD2 (Sl (.slice (some ⟨bB, 0, none⟩) ([1] : List Int).length ([1] : List Int).length) ([1] : List Int) :: Sl (.slice A10 ((5 : Int).toNat - (0 : Int).toNat) c10) ((exO2.take (5 : Int).toNat).drop (0 : Int).toNat) :: iC Ax cx Ax2 cx2 exX (iC A7 c7 A8 c8 exD1 (Sl (.slice A9 6 c9) exO2 :: R))))) (fun w hs => hs.weaken bU cZ) ?_
            refine dJ _ (List.Sublist.refl _) cZ ?_
            exact hG Ad cd Ad2 cd2 bB bZ Au cu Au2 cu2
          · skip
            refine GW.ow rfl ?_; refine bK cW (fun bZ => ?_)
            refine ⟨.inl (fun w hs => hs.weaken bU cZ), ?_⟩; refine aJ ?_
            refine fN 5 ?_
            refine aY fA ?_; refine gG Ad cd Ad2 cd2 _ _ exD2 [1] (by rw [ex_len2.1]; decide) (by rw [ex_len2.2]; decide) (by decide) aV aV aV (hP exY 0 iR (fun Au cu Au2 cu2 => ?_))
            refine ⟨.inl (fun w hs => hs.weaken bU cZ), ?_⟩; refine aJ ?_
            refine dJ _ (List.Sublist.refl _) cZ ?_
            all_goals (refine bR 6 bU ?_; ((refine aH ?_)); refine aJ ?_)
            all_goals (refine bR 7 bU ?_; ((refine cD rfl rfl ?_)); refine aJ ?_)
            all_goals (refine bR 8 bU ?_; ((refine cD rfl rfl ?_)); refine aJ ?_)
            refine eQ (H' := .blk bZ [.slice none 0 0, .slice none 0 0] 51 :: .blk bZx [.slice Ax exX.bytes.length cx, .slice Ax2 exX.pending.length cx2] 51 :: .blk b8 [.slice A7 exD1.bytes.length c7, .slice A8 exD1.pending.length c8] 51 :: H) (R' := iC Au cu Au2 cu2 exY (iC Ad cd Ad2 cd2 exD2 (Sl (.slice (some ⟨bB, 0, none⟩) ([1] : List Int).length ([1] : List Int).length) ([1] : List Int) :: Sl (.slice A10 ((5 : Int).toNat - (0 : Int).toNat) c10) ((exO2.take (5 : Int).toNat).drop (0 : Int).toNat) :: iC Ax cx Ax2 cx2 exX (iC A7 c7 A8 c8 exD1 (Sl (.slice A9 6 c9) exO2 :: R))))) (fun w hs => hs.weaken bU cZ) ?_
            refine dJ _ (List.Sublist.refl _) cZ ?_
            exact hG Ad cd Ad2 cd2 bB bZ Au cu Au2 cu2
        · skip
          refine GW.ow rfl ?_; refine bK cW (fun bZ => ?_)
          refine ⟨.inl (fun w hs => hs.weaken bU cZ), ?_⟩; refine aJ ?_
          refine fN 4 ?_
          refine GW.ow rfl ?_; refine bH (by decide) fD rfl (fun bB => ?_)
          refine ⟨.inl (fun w hs => hs.weaken bU cZ), ?_⟩; refine aJ ?_
          refine eQ (fun w hs => hs.ints_stay [1] rfl (by intro x hx; simp at hx; subst hx; simp [dD]) (by decide)) ?_
          refine fN 5 ?_
          refine aY fA ?_; refine gG Ad cd Ad2 cd2 _ _ exD2 [1] (by rw [ex_len2.1]; decide) (by rw [ex_len2.2]; decide) (by decide) aV aV aV (hP exY 0 iR (fun Au cu Au2 cu2 => ?_))
          refine ⟨.inl (fun w hs => hs.weaken bU cZ), ?_⟩; refine aJ ?_
          refine dJ _ (List.Sublist.refl _) cZ ?_
          all_goals (refine bR 6 bU ?_; ((refine aH ?_)); refine aJ ?_)
          all_goals (refine bR 7 bU ?_; ((refine cD rfl rfl ?_)); refine aJ ?_)
          all_goals (refine bR 8 bU ?_; ((refine cD rfl rfl ?_)); refine aJ ?_)
          refine eQ (H' := .blk bZ [.slice none 0 0, .slice none 0 0] 51 :: .blk bZx [.slice Ax exX.bytes.length cx, .slice Ax2 exX.pending.length cx2] 51 :: .blk b8 [.slice A7 exD1.bytes.length c7, .slice A8 exD1.pending.length c8] 51 :: H) (R' := iC Au cu Au2 cu2 exY (iC Ad cd Ad2 cd2 exD2 (Sl (.slice (some ⟨bB, 0, none⟩) ([1] : List Int).length ([1] : List Int).length) ([1] : List Int) :: Sl (.slice A10 ((5 : Int).toNat - (0 : Int).toNat) c10) ((exO2.take (5 : Int).toNat).drop (0 : Int).toNat) :: iC Ax cx Ax2 cx2 exX (iC A7 c7 A8 c8 exD1 (Sl (.slice A9 6 c9) exO2 :: R))))) (fun w hs => hs.weaken bU cZ) ?_
          refine dJ _ (List.Sublist.refl _) cZ ?_
          exact hG Ad cd Ad2 cd2 bB bZ Au cu Au2 cu2
      · skip
        refine GW.ow rfl ?_; refine bH (by decide) fD rfl (fun bB => ?_)
        refine ⟨.inl (fun w hs => hs.weaken bU cZ), ?_⟩; refine aJ ?_
        refine eQ (fun w hs => hs.ints_stay [1] rfl (by intro x hx; simp at hx; subst hx; simp [dD]) (by decide)) ?_
        refine nV 3 9 ?_ ?_
        · skip
          refine aY fA ?_; refine kA A7 c7 A8 c8 A10 _ c10 exD1 ((exO2.take (5 : Int).toNat).drop (0 : Int).toNat) rfl (by rw [ex_len1.1]; decide) (by rw [ex_len1.2]; decide) (by decide) aV aV aV (show zF _ exD2 _ _ from fun Ad cd Ad2 cd2 => ?_)
          refine ⟨.inl (fun w hs => hs.weaken bU cZ), ?_⟩; refine aJ ?_
          refine nV 5 9 ?_ ?_
          · skip
            refine aY fA ?_; refine gG Ad cd Ad2 cd2 _ _ exD2 [1] (by rw [ex_len2.1]; decide) (by rw [ex_len2.2]; decide) (by decide) aV aV aV (hP exY 0 iR (fun Au cu Au2 cu2 => ?_))
            refine ⟨.inl (fun w hs => hs.weaken bU cZ), ?_⟩; refine aJ ?_
            refine dJ _ (List.Sublist.refl _) cZ ?_
            all_goals (refine bR 6 bU ?_; ((refine aH ?_)); refine aJ ?_)
            all_goals (refine bR 7 bU ?_; ((refine cD rfl rfl ?_)); refine aJ ?_)
            all_goals (refine bR 8 bU ?_; ((refine cD rfl rfl ?_)); refine aJ ?_)
            refine fN 9 ?_
            refine GW.ow rfl ?_; refine bK cW (fun bZ => ?_)
            refine ⟨.inl (fun w hs => hs.weaken bU cZ), ?_⟩; refine aJ ?_
            refine eQ (H' := .blk bZ [.slice none 0 0, .slice none 0 0] 51 :: .blk bZx [.slice Ax exX.bytes.length cx, .slice Ax2 exX.pending.length cx2] 51 :: .blk b8 [.slice A7 exD1.bytes.length c7, .slice A8 exD1.pending.length c8] 51 :: H) (R' := iC Au cu Au2 cu2 exY (iC Ad cd Ad2 cd2 exD2 (Sl (.slice (some ⟨bB, 0, none⟩) ([1] : List Int).length ([1] : List Int).length) ([1] : List Int) :: Sl (.slice A10 ((5 : Int).toNat - (0 : Int).toNat) c10) ((exO2.take (5 : Int).toNat).drop (0 : Int).toNat) :: iC Ax cx Ax2 cx2 exX (iC A7 c7 A8 c8 exD1 (Sl (.slice A9 6 c9) exO2 :: R))))) (fun w hs => hs.weaken bU cZ) ?_
            refine dJ _ (List.Sublist.refl _) cZ ?_
            exact hG Ad cd Ad2 cd2 bB bZ Au cu Au2 cu2
          · skip
            refine GW.ow rfl ?_; refine bK cW (fun bZ => ?_)
            refine ⟨.inl (fun w hs => hs.weaken bU cZ), ?_⟩; refine aJ ?_
            refine fN 5 ?_
            refine aY fA ?_; refine gG Ad cd Ad2 cd2 _ _ exD2 [1] (by rw [ex_len2.1]; decide) (by rw [ex_len2.2]; decide) (by decide) aV aV aV (hP exY 0 iR (fun Au cu Au2 cu2 => ?_))
            refine ⟨.inl (fun w hs => hs.weaken bU cZ), ?_⟩; refine aJ ?_
            refine dJ _ (List.Sublist.refl _) cZ ?_
            all_goals (refine bR 6 bU ?_; ((refine aH ?_)); refine aJ ?_)
            all_goals (refine bR 7 bU ?_; ((refine cD rfl rfl ?_)); refine aJ ?_)
            all_goals (refine bR 8 bU ?_; ((refine cD rfl rfl ?_)); refine aJ ?_)
            refine eQ (H' := .blk bZ [.slice none 0 0, .slice none 0 0] 51 :: .blk bZx [.slice Ax exX.bytes.length cx, .slice Ax2 exX.pending.length cx2] 51 :: .blk b8 [.slice A7 exD1.bytes.length c7, .slice A8 exD1.pending.length c8] 51 :: H) (R' := iC Au cu Au2 cu2 exY (iC Ad cd Ad2 cd2 exD2 (Sl (.slice (some ⟨bB, 0, none⟩) ([1] : List Int).length ([1] : List Int).length) ([1] : List Int) :: Sl (.slice A10 ((5 : Int).toNat - (0 : Int).toNat) c10) ((exO2.take (5 : Int).toNat).drop (0 : Int).toNat) :: iC Ax cx Ax2 cx2 exX (iC A7 c7 A8 c8 exD1 (Sl (.slice A9 6 c9) exO2 :: R))))) (fun w hs => hs.weaken bU cZ) ?_
            refine dJ _ (List.Sublist.refl _) cZ ?_
            exact hG Ad cd Ad2 cd2 bB bZ Au cu Au2 cu2
        · skip
          refine GW.ow rfl ?_; refine bK cW (fun bZ => ?_)
          refine ⟨.inl (fun w hs => hs.weaken bU cZ), ?_⟩; refine aJ ?_
          refine fN 3 ?_
          refine aY fA ?_; refine kA A7 c7 A8 c8 A10 _ c10 exD1 ((exO2.take (5 : Int).toNat).drop (0 : Int).toNat) rfl (by rw [ex_len1.1]; decide) (by rw [ex_len1.2]; decide) (by decide) aV aV aV (show zF _ exD2 _ _ from fun Ad cd Ad2 cd2 => ?_)
          refine ⟨.inl (fun w hs => hs.weaken bU cZ), ?_⟩; refine aJ ?_
          refine fN 5 ?_
          refine aY fA ?_; refine gG Ad cd Ad2 cd2 _ _ exD2 [1] (by rw [ex_len2.1]; decide) (by rw [ex_len2.2]; decide) (by decide) aV aV aV (hP exY 0 iR (fun Au cu Au2 cu2 => ?_))
          refine ⟨.inl (fun w hs => hs.weaken bU cZ), ?_⟩; refine aJ ?_
          refine dJ _ (List.Sublist.refl _) cZ ?_
          all_goals (refine bR 6 bU ?_; ((refine aH ?_)); refine aJ ?_)
          all_goals (refine bR 7 bU ?_; ((refine cD rfl rfl ?_)); refine aJ ?_)
          all_goals (refine bR 8 bU ?_; ((refine cD rfl rfl ?_)); refine aJ ?_)
          refine eQ (H' := .blk bZ [.slice none 0 0, .slice none 0 0] 51 :: .blk bZx [.slice Ax exX.bytes.length cx, .slice Ax2 exX.pending.length cx2] 51 :: .blk b8 [.slice A7 exD1.bytes.length c7, .slice A8 exD1.pending.length c8] 51 :: H) (R' := iC Au cu Au2 cu2 exY (iC Ad cd Ad2 cd2 exD2 (Sl (.slice (some ⟨bB, 0, none⟩) ([1] : List Int).length ([1] : List Int).length) ([1] : List Int) :: Sl (.slice A10 ((5 : Int).toNat - (0 : Int).toNat) c10) ((exO2.take (5 : Int).toNat).drop (0 : Int).toNat) :: iC Ax cx Ax2 cx2 exX (iC A7 c7 A8 c8 exD1 (Sl (.slice A9 6 c9) exO2 :: R))))) (fun w hs => hs.weaken bU cZ) ?_
          refine dJ _ (List.Sublist.refl _) cZ ?_
          exact hG Ad cd Ad2 cd2 bB bZ Au cu Au2 cu2
      · skip
        refine GW.ow rfl ?_; refine bK cW (fun bZ => ?_)
        refine ⟨.inl (fun w hs => hs.weaken bU cZ), ?_⟩; refine aJ ?_
        refine nV 3 4 ?_ ?_
        · skip
          refine aY fA ?_; refine kA A7 c7 A8 c8 A10 _ c10 exD1 ((exO2.take (5 : Int).toNat).drop (0 : Int).toNat) rfl (by rw [ex_len1.1]; decide) (by rw [ex_len1.2]; decide) (by decide) aV aV aV (show zF _ exD2 _ _ from fun Ad cd Ad2 cd2 => ?_)
          refine ⟨.inl (fun w hs => hs.weaken bU cZ), ?_⟩; refine aJ ?_
          refine fN 4 ?_
          refine GW.ow rfl ?_; refine bH (by decide) fD rfl (fun bB => ?_)
          refine ⟨.inl (fun w hs => hs.weaken bU cZ), ?_⟩; refine aJ ?_
          refine eQ (fun w hs => hs.ints_stay [1] rfl (by intro x hx; simp at hx; subst hx; simp [dD]) (by decide)) ?_
          refine fN 5 ?_
          refine aY fA ?_; refine gG Ad cd Ad2 cd2 _ _ exD2 [1] (by rw [ex_len2.1]; decide) (by rw [ex_len2.2]; decide) (by decide) aV aV aV (hP exY 0 iR (fun Au cu Au2 cu2 => ?_))
          refine ⟨.inl (fun w hs => hs.weaken bU cZ), ?_⟩; refine aJ ?_
          refine dJ _ (List.Sublist.refl _) cZ ?_
          all_goals (refine bR 6 bU ?_; ((refine aH ?_)); refine aJ ?_)
          all_goals (refine bR 7 bU ?_; ((refine cD rfl rfl ?_)); refine aJ ?_)
          all_goals (refine bR 8 bU ?_; ((refine cD rfl rfl ?_)); refine aJ ?_)
          refine eQ (H' := .blk bZ [.slice none 0 0, .slice none 0 0] 51 :: .blk bZx [.slice Ax exX.bytes.length cx, .slice Ax2 exX.pending.length cx2] 51 :: .blk b8 [.slice A7 exD1.bytes.length c7, .slice A8 exD1.pending.length c8] 51 :: H) (R' := iC Au cu Au2 cu2 exY (iC Ad cd Ad2 cd2 exD2 (Sl (.slice (some ⟨bB, 0, none⟩) ([1] : List Int).length ([1] : List Int).length) ([1] : List Int) :: Sl (.slice A10 ((5 : Int).toNat - (0 : Int).toNat) c10) ((exO2.take (5 : Int).toNat).drop (0 : Int).toNat) :: iC Ax cx Ax2 cx2 exX (iC A7 c7 A8 c8 exD1 (Sl (.slice A9 6 c9) exO2 :: R))))) (fun w hs => hs.weaken bU cZ) ?_
          refine dJ _ (List.Sublist.refl _) cZ ?_
          exact hG Ad cd Ad2 cd2 bB bZ Au cu Au2 cu2
        · skip
          refine GW.ow rfl ?_; refine bH (by decide) fD rfl (fun bB => ?_)
          refine ⟨.inl (fun w hs => hs.weaken bU cZ), ?_⟩; refine aJ ?_
          refine eQ (fun w hs => hs.ints_stay [1] rfl (by intro x hx; simp at hx; subst hx; simp [dD]) (by decide)) ?_
          refine fN 3 ?_
          refine aY fA ?_; refine kA A7 c7 A8 c8 A10 _ c10 exD1 ((exO2.take (5 : Int).toNat).drop (0 : Int).toNat) rfl (by rw [ex_len1.1]; decide) (by rw [ex_len1.2]; decide) (by decide) aV aV aV (show zF _ exD2 _ _ from fun Ad cd Ad2 cd2 => ?_)
          refine ⟨.inl (fun w hs => hs.weaken bU cZ), ?_⟩; refine aJ ?_
          refine fN 5 ?_
          refine aY fA ?_; refine gG Ad cd Ad2 cd2 _ _ exD2 [1] (by rw [ex_len2.1]; decide) (by rw [ex_len2.2]; decide) (by decide) aV aV aV (hP exY 0 iR (fun Au cu Au2 cu2 => ?_))
          refine ⟨.inl (fun w hs => hs.weaken bU cZ), ?_⟩; refine aJ ?_
          refine dJ _ (List.Sublist.refl _) cZ ?_
          all_goals (refine bR 6 bU ?_; ((refine aH ?_)); refine aJ ?_)
          all_goals (refine bR 7 bU ?_; ((refine cD rfl rfl ?_)); refine aJ ?_)
          all_goals (refine bR 8 bU ?_; ((refine cD rfl rfl ?_)); refine aJ ?_)
          refine eQ (H' := .blk bZ [.slice none 0 0, .slice none 0 0] 51 :: .blk bZx [.slice Ax exX.bytes.length cx, .slice Ax2 exX.pending.length cx2] 51 :: .blk b8 [.slice A7 exD1.bytes.length c7, .slice A8 exD1.pending.length c8] 51 :: H) (R' := iC Au cu Au2 cu2 exY (iC Ad cd Ad2 cd2 exD2 (Sl (.slice (some ⟨bB, 0, none⟩) ([1] : List Int).length ([1] : List Int).length) ([1] : List Int) :: Sl (.slice A10 ((5 : Int).toNat - (0 : Int).toNat) c10) ((exO2.take (5 : Int).toNat).drop (0 : Int).toNat) :: iC Ax cx Ax2 cx2 exX (iC A7 c7 A8 c8 exD1 (Sl (.slice A9 6 c9) exO2 :: R))))) (fun w hs => hs.weaken bU cZ) ?_
          refine dJ _ (List.Sublist.refl _) cZ ?_
          exact hG Ad cd Ad2 cd2 bB bZ Au cu Au2 cu2
    case hb16 =>
      intro Ad cd Ad2 cd2 bB bZy Ay cy Ay2 cy2
      refine dJ _ (List.Sublist.refl _) cZ ?_
      refine lL 10 ?_
      refine aO (i := 0) rfl cW rfl (by rfl) (by simp) (by simp [Value.oneCell']) ?_
      refine ⟨.inl (fun w hs => hs.weaken bU cZ), ?_⟩
      refine aJ ?_
      refine jC ?_
      all_goals ((refine bR 11 bU ?_; ((refine aX ?_)); refine aJ ?_))
      all_goals refine gX ?_
      apply aD
      refine dT (.blk bZy [.slice Ay exY.bytes.length cy, .slice Ay2 exY.pending.length cy2] 51 :: .blk bZx [.slice Ax exX.bytes.length cx, .slice Ax2 exX.pending.length cx2] 51 :: .blk b8 [.slice A7 exD1.bytes.length c7, .slice A8 exD1.pending.length c8] 51 :: H) (iC Ay cy Ay2 cy2 exY (iC Ax cx Ax2 cx2 exX (iC A7 c7 A8 c8 exD1 (Sl (.slice A9 6 c9) exO2 :: R)))) (fun w hs => hs.weaken bU cZ) ?_
      repeat' (first | (refine dS rfl ?_; refine aY fA ?_; refine i0 Ax cx Ax2 cx2 exX (by rw [ex_lenX.1]; decide) (by rw [ex_lenX.2]; decide) aV aV (wG [7] 0 q8 (n := 1) rfl (fun Ap cp => ?_)); refine aB ?_) | (apply aF) | (apply aA) | (apply aG) | (apply aD) | (apply aP; exact rfl; ((first | refine aM (i := 0) rfl rfl rfl ?_ | refine aM (i := 1) rfl rfl rfl ?_)); refine aB ?_) | (refine aE rfl rfl ?_; ((first | refine aH ?_ | refine aX ?_ | refine cD rfl rfl ?_)); refine aB ?_))
      refine dS rfl ?_; refine aY fA ?_; refine i0 Ay cy Ay2 cy2 exY (by rw [ex_lenY.1]; decide) (by rw [ex_lenY.2]; decide) aV aV (wG [1, 2, 3] 0 q9 (n := 3) rfl (fun Aq cq => ?_)); refine aB ?_
      repeat' (first | (apply aU; exact rfl; refine fS rfl rfl (fun _ => ?_) (fun h => absurd rfl h); refine aB ?_) | (refine aE rfl rfl ?_; refine fU (v := .slice _ 1 _) (xs := [7]) rfl rfl uD rfl (by decide) (fun b o => ?_); refine aB ?_) | (refine aE rfl rfl ?_; refine fU (v := .slice _ 3 _) (xs := [1, 2, 3]) rfl rfl uD rfl (by decide) (fun b o => ?_); refine aB ?_) | (apply aF) | (apply aA) | (apply bN) | (apply aG) | (apply aD) | (apply aP; exact rfl; ((refine aZ rfl cJ rfl ?_)); refine aB ?_) | (refine aE rfl rfl ?_; ((first | refine aH ?_ | refine aX ?_ | refine bT rfl eJ ?_ | refine bQ rfl ?_ | refine cD rfl rfl ?_)); refine aB ?_))
      exact bC (.inl rfl) (dM rfl (bS rfl)) (cG H R (fun w hs => hs.weaken bU cZ) k)
end Go.Proofs.YtggdljhmbckpmaaGreat
namespace Go.Proofs.YtggdljhmbckpmaaGreat
open Go Go.RowKit
set_option maxRecDepth 100000
set_option maxHeartbeats 1600000

theorem vC (xs : List UInt8) : (oN xs).toList = xs := ByteArray.toList_mk xs
section
variable {P : Program} {w0 : World} {E : List Value} {H : List Hp} {R : List MP} {ty : TypeId} {K : Value → List MP → Prop}
theorem pw_eqs {t t' : TypeId} {x y : Operand} {xs ys : List UInt8} (hx : ev E x = .string (oN xs)) (hy : ev E y = .string (oN ys)) (kk : K (.bool (decide (xs = ys))) R) : PW P w0 E (.binOp .eql t x y t') ty H R K :=
  eV rfl (fun w _ => by
    have hg : (eqGuard .eql t x y (.string (oN xs)) (.string (oN ys))).run P w = .ok () w := by cases x <;> cases y <;> rfl
    rw [hx, hy]
    simp only [Sem.run_bind, hg, Result.andThen_ok, binOp_string_eql, vC, Sem.run_pure]
    have e : (xs == ys) = decide (xs = ys) := Bool.eq_iff_iff.2 (by simp)
    rw [e]) kk
end
theorem uH {w0 : World} {H : List Hp} {R : List MP} {K : Value → List Hp → List MP → Prop} (A : Option Addr) (m c : Nat) (A2 : Option Addr) (m2 c2 : Nat) (xs ys : List UInt8) (h1 : Sl (.slice A m c) xs ∈ R) (h2 : Sl (.slice A2 m2 c2) ys ∈ R)
    (k : K (.bool (decide (xs = ys))) H R) : CallsK Tryz.prog w0 11 #[.slice A m c, .slice A2 m2 c2] H R K := by
  refine bX Tryz.func11 rfl Tryz.ntmps11 eZ ?_
  repeat' (first | (refine aE rfl rfl ?_; refine tH (xs := xs) rfl h1 ?_; refine aB ?_) | (refine aE rfl rfl ?_; refine tH (xs := ys) rfl h2 ?_; refine aB ?_) | (apply aU; exact rfl; refine pw_eqs rfl rfl ?_; refine aB ?_) | (apply aF) | (apply aA) | (apply bN) | (apply aG) | (apply aD) | (refine aE rfl rfl ?_; ((first | refine aH ?_ | refine aX ?_)); refine aB ?_))
  exact bC (.inl rfl) (dM rfl (bS rfl)) (cG H R (fun _ h => h) k)
theorem sV {w0 : World} {H : List Hp} {R : List MP} {K : Value → List Hp → List MP → Prop} (A : Option Addr) (m c : Nat) (A2 : Option Addr) (m2 c2 : Nat) (xs ys : List UInt8) (h1 : Sl (.slice A m c) xs ∈ R) (h2 : Sl (.slice A2 m2 c2) ys ∈ R)
    (kt : xs = ys → K (.bool true) H R) (kf : xs ≠ ys → K (.bool false) H R) : CallsK Tryz.prog w0 11 #[.slice A m c, .slice A2 m2 c2] H R K := by
  refine uH A m c A2 m2 c2 xs ys h1 h2 ?_
  by_cases h : xs = ys
  · rw [decide_eq_true h]; exact kt h
  · rw [decide_eq_false h]; exact kf h
end Go.Proofs.YtggdljhmbckpmaaGreat
