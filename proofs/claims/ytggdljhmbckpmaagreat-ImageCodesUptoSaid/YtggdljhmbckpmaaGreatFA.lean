/- The small functions of package image: walks. The small functions of package image: walks (2). -/
import Derived.Test.YtggdljhmbckpmaaGreatA7
import Derived.Test.YtggdljhmbckpmaaGreatA7f0
import Derived.Test.YtggdljhmbckpmaaGreatA7f1
import Derived.Test.YtggdljhmbckpmaaGreatAM
set_option linter.unusedVariables false
set_option linter.unusedSimpArgs false
namespace Go.Proofs.YtggdljhmbckpmaaGreat
open Go Go.RowKit
set_option maxRecDepth 100000
set_option maxHeartbeats 400000

def fnv (s : Nat) (c : UInt8) : Nat := ((s ^^^ c.toNat) * 16777619) % 4294967296
def lJ (xs : List UInt8) : Nat := xs.foldl fnv 2166136261
theorem fnv_lt (s : Nat) (c : UInt8) : fnv s c < 4294967296 := Nat.mod_lt _ (by omega)
theorem lK : ∀ (xs : List UInt8) (s : Nat), s < 4294967296 → xs.foldl fnv s < 4294967296
  | [], s, h => h
  | x :: xs, s, h => lK xs _ (fnv_lt s x)
theorem xR (xs : List UInt8) : lJ xs < 4294967296 := lK xs _ (by omega)

theorem xZ (xs : List UInt8) (i : Nat) (hi : i < xs.length) : (xs.take (i + 1)).foldl fnv 2166136261 = fnv ((xs.take i).foldl fnv 2166136261) xs[i] := by
  rw [List.take_succ_eq_append_getElem hi, List.foldl_append, List.foldl_cons, List.foldl_nil]

theorem sum_k {w0 : World} {H : List Hp} {R : List MP} {K : Value → List Hp → List MP → Prop} (A : Option Addr) (c : Nat) (xs : List UInt8) (hb : xs.length ≤ 9223372036854775807) (hm : Sl (.slice A xs.length c) xs ∈ R)
    (k : K (.int .u32 (lJ xs : Nat)) H R) : CallsK Tryz.prog w0 115 #[.slice A xs.length c] H R K := by
  refine bX Tryz.func115 rfl Tryz.ntmps115 eZ ?_
  repeat' (first | (apply aF) | (apply aA) | (apply aT) | (apply aG) | (apply aD) | (refine aE rfl rfl ?_; ((first | refine aH ?_ | refine aX ?_ | refine bQ rfl ?_)); refine aB ?_))
  refine cK [3, 5, 8, 9, 10, 11, 12, 13, 14, 15, 16, 17] (fun m j H' R' => H' = H ∧ R' = R ∧ ∃ i : Nat, i + m = xs.length ∧ j 8 = .int .i64 i ∧ j 3 = .int .u32 ((xs.take i).foldl fnv 2166136261 : Nat)) xs.length eE ⟨rfl, rfl, 0, by omega, rfl, rfl⟩ ?_
  rintro m j H' R' ⟨rfl, rfl, i, hi, h8, h3⟩
  refine cQ (by simp only [dX, List.foldl_cons, List.foldl_nil, List.set_cons_succ, List.set_cons_zero, *]; rfl) ?_
  repeat' (first | (refine aE rfl rfl ?_; ((first | refine jR rfl ?_ | refine pw_xor rfl rfl rfl (lK _ _ (by omega)) (Nat.lt_of_lt_of_le (UInt8.toNat_lt _) (by decide)) ?_ | refine aA3 (b := 16777619) rfl rfl rfl ?_)); refine aB ?_) | (apply aF) | (apply aA) | (apply aT) | (apply bN) | (apply bE) | (apply bV) | (apply aK; exact rfl) | (apply aI; exact rfl) | (apply aG) | (apply aD) | (apply aS) | (apply bP) | (apply aR) | (apply aP; exact rfl; ((refine aZ rfl cJ rfl ?_)); refine aB ?_) | (apply aU; exact rfl; ((refine bI rfl rfl (by omega) (by omega) ?_)); refine aB ?_) | (apply aU; exact rfl; ((refine bM rfl rfl (fun h => ?_) (fun h => ?_))) <;> (refine aB ?_)) | (apply gL; exact rfl; ((refine kI eJ rfl aV (List.getElem?_eq_getElem (by omega)) (fun b o => ?_))); refine aB ?_) | (refine aE rfl rfl ?_; ((first | refine aH ?_ | refine aX ?_)); refine aB ?_))
  · refine cE (m - 1) H' R' (by omega) eE ⟨rfl, rfl, i + 1, by omega, rfl, ?_⟩ (fun w hs => hs.weaken (List.Sublist.refl _) (fun p hp => List.Mem.tail _ hp))
    exact congrArg (fun n : Nat => Value.int .u32 (n : Int)) (xZ xs i (by omega)).symm
  · refine bC (.inl rfl) (dM rfl (bS rfl)) (cG H' R' (fun _ h => h) ?_)
    rw [List.take_of_length_le (by omega)]
    exact k
end Go.Proofs.YtggdljhmbckpmaaGreat
namespace Go.Proofs.YtggdljhmbckpmaaGreat
open Go Go.RowKit
set_option maxRecDepth 100000
set_option maxHeartbeats 800000

theorem K_nat {K : Value → List Hp → List MP → Prop} {k : IntKind} {H : List Hp} {R : List MP} {a b : Nat} (h : a = b) (hk : K (.int k (b : Int)) H R) : K (.int k (a : Int)) H R := h ▸ hk

def four (a b c d : UInt8) : Nat := a.toNat ||| b.toNat * 2 ^ 8 % 2 ^ 32 ||| c.toNat * 2 ^ 16 % 2 ^ 32 ||| d.toNat * 2 ^ 24 % 2 ^ 32
def eU (xs : List UInt8) : Nat := four (xs.getD 0 0) (xs.getD 1 0) (xs.getD 2 0) (xs.getD 3 0)
theorem nL (xs : List UInt8) (i : Nat) (h : i < xs.length) : xs.getD i 0 = xs[i] := by simp [List.getD, h]
theorem r3 {w0 : World} {H : List Hp} {R : List MP} {K : Value → List Hp → List MP → Prop} (A : Option Addr) (c : Nat) (xs : List UInt8) (h4 : 4 ≤ xs.length) (hb : xs.length ≤ 9223372036854775807) (hm : Sl (.slice A xs.length c) xs ∈ R)
    (k : K (.int .u32 (eU xs : Nat)) H R) : CallsK Tryz.prog w0 155 #[.slice A xs.length c] H R K := by
  refine bX Tryz.func155 rfl Tryz.ntmps155 eZ ?_
  repeat' (first | (apply aF) | (apply aA) | (apply aG) | (apply aD) | (refine aE rfl rfl ?_; ((refine aX ?_)); refine aB ?_))
  refine dQ eT (by decide +kernel) (fun _ _ _ _ _ _ h => h) (List.Sublist.refl _) ?_
  all_goals ((refine bF 0 ?_; ((refine aH ?_)); refine aJ ?_))
  all_goals ((refine bF 1 ?_; ((refine fU eJ rfl aV (List.getElem?_eq_getElem (by omega)) (by omega) (fun b o => ?_))); refine aJ ?_))
  all_goals ((refine bF 2 ?_; ((refine aZ rfl cJ rfl ?_)); refine aJ ?_))
  all_goals ((refine bF 3 ?_; ((refine jR eJ ?_)); refine aJ ?_))
  all_goals ((refine bF 4 ?_; ((refine aH ?_)); refine aJ ?_))
  all_goals ((refine bF 5 ?_; ((refine fU eJ rfl aV (List.getElem?_eq_getElem (by omega)) (by omega) (fun b o => ?_))); refine aJ ?_))
  all_goals ((refine bF 6 ?_; ((refine aZ rfl cJ rfl ?_)); refine aJ ?_))
  all_goals ((refine bF 7 ?_; ((refine jR eJ ?_)); refine aJ ?_))
  all_goals ((refine bF 8 ?_; ((refine oA (n := 8) rfl rfl rfl (by decide) ?_)); refine aJ ?_))
  all_goals ((refine bF 9 ?_; ((refine sM rfl rfl rfl (by repeat' ((exact Nat.lt_of_lt_of_le (UInt8.toNat_lt _) (by decide)))) (by repeat' ((exact Nat.mod_lt _ (by decide)))) ?_)); refine aJ ?_))
  all_goals ((refine bF 10 ?_; ((refine aH ?_)); refine aJ ?_))
  all_goals ((refine bF 11 ?_; ((refine fU eJ rfl aV (List.getElem?_eq_getElem (by omega)) (by omega) (fun b o => ?_))); refine aJ ?_))
  all_goals ((refine bF 12 ?_; ((refine aZ rfl cJ rfl ?_)); refine aJ ?_))
  all_goals ((refine bF 13 ?_; ((refine jR eJ ?_)); refine aJ ?_))
  all_goals ((refine bF 14 ?_; ((refine oA (n := 16) rfl rfl rfl (by decide) ?_)); refine aJ ?_))
  all_goals ((refine bF 15 ?_; ((refine sM rfl rfl rfl (by repeat' ((first | exact Nat.mod_lt _ (by decide) | exact Nat.lt_of_lt_of_le (UInt8.toNat_lt _) (by decide) | refine Nat.or_lt_two_pow ?_ ?_))) (by repeat' ((exact Nat.mod_lt _ (by decide)))) ?_)); refine aJ ?_))
  all_goals ((refine bF 16 ?_; ((refine aH ?_)); refine aJ ?_))
  all_goals ((refine bF 17 ?_; ((refine fU eJ rfl aV (List.getElem?_eq_getElem (by omega)) (by omega) (fun b o => ?_))); refine aJ ?_))
  all_goals ((refine bF 18 ?_; ((refine aZ rfl cJ rfl ?_)); refine aJ ?_))
  all_goals ((refine bF 19 ?_; ((refine jR eJ ?_)); refine aJ ?_))
  all_goals ((refine bF 20 ?_; ((refine oA (n := 24) rfl rfl rfl (by decide) ?_)); refine aJ ?_))
  all_goals ((refine bF 21 ?_; ((refine sM rfl rfl rfl (by repeat' ((first | exact Nat.mod_lt _ (by decide) | exact Nat.lt_of_lt_of_le (UInt8.toNat_lt _) (by decide) | refine Nat.or_lt_two_pow ?_ ?_))) (by repeat' ((exact Nat.mod_lt _ (by decide)))) ?_)); refine aJ ?_))
  all_goals ((refine bF 22 ?_; ((refine aX ?_)); refine aJ ?_))
  all_goals refine gX ?_
  repeat' (first | (apply bN) | (apply aD))
  refine bC (.inl rfl) (dM rfl (bS rfl)) (cG H R (fun w hs => hs.weaken (List.Sublist.refl _) (fun p hp => by simp [hp])) ?_)
  refine K_nat (b := eU xs) ?_ k
  simp only [eU, four, nL xs 0 (by omega), nL xs 1 (by omega), nL xs 2 (by omega), nL xs 3 (by omega)]
  rfl

def qO (n : Nat) : List UInt8 := [UInt8.ofNat n, UInt8.ofNat (n / 256), UInt8.ofNat (n / 65536), UInt8.ofNat (n / 16777216)]
theorem tR (n : Nat) : Value.int .u8 ((n % 2 ^ IntKind.bits .u8 : Nat) : Int) = eP (UInt8.ofNat n) := by simp [eP, IntKind.bits]
theorem lN {w0 : World} {H : List Hp} {R : List MP} {K : Value → List Hp → List MP → Prop} (v : Value) (m n : Nat) (cs : List Value) (hb : m ≤ 1000000000) (hn : n < 4294967296)
    (k : ∀ v', K v' (.row v' 5 1 (m + 4) (cs ++ bA (qO n)) :: H) R) : CallsK Tryz.prog w0 114 #[v, .int .u32 n] (.row v 5 1 m cs :: H) R K := by
  refine bX Tryz.func114 rfl Tryz.ntmps114 eZ ?_
  repeat' (first | (refine aE rfl rfl ?_; ((first | refine kT rfl rfl ?_ | refine mJ (n := 8) rfl rfl (by decide) ?_ | refine mJ (n := 16) rfl rfl (by decide) ?_ | refine mJ (n := 24) rfl rfl (by decide) ?_)); refine aB ?_) | (apply aF) | (apply aA) | (apply aG) | (apply aD) | (refine aE rfl rfl ?_; ((first | refine aH ?_ | refine aX ?_)); refine aB ?_) | (refine bG rfl rfl ?_; ((refine bH (by decide) fD rfl (fun b => ?_))); refine aB ?_))
  refine T_hp (H' := .blk b (bA (qO n)) 5 :: .row v 5 1 m cs :: H) (by simp only [bA, qO, List.map_cons, List.map_nil, ← tR]) ?_
  refine bG rfl rfl ?_
  refine cY 1 0 rfl rfl rfl rfl (by decide) (by simp [qO]) (lD _) (by omega) (by omega) (fun v' => ?_)
  refine aB ?_
  refine cA ?_
  repeat' (first | (apply bN) | (apply aG) | (apply aD) | (refine aE rfl rfl ?_; ((refine aX ?_)); refine aB ?_))
  refine bC (.inl rfl) (dM rfl (bS rfl)) (cG _ R (fun w hs => hs.weaken (List.sublist_cons_self _ _) (fun p hp => hp)) (k v'))

/-- slices.Clone of bytes: a row of its own. -/
theorem nA {w0 : World} {H : List Hp} {R : List MP} {K : Value → List Hp → List MP → Prop} (A : Option Addr) (c : Nat) (xs : List UInt8) (hb : xs.length ≤ 140737488355328) (hm : Sl (.slice A xs.length c) xs ∈ R)
    (k : ∀ v', K v' (.row v' 5 1 xs.length (bA xs) :: H) R) : CallsK Tryz.prog w0 64 #[.slice A xs.length c] H R K := by
  refine dZ (p := A = none → xs = []) (fun w hs hA => ?_) (fun hnil => ?_)
  · obtain ⟨hn, hc⟩ := hs.sl_bytes hm
    rcases Nat.eq_zero_or_pos xs.length with h0 | h0
    · exact List.eq_nil_of_length_eq_zero h0
    · obtain ⟨b, o, e, _⟩ := hc h0
      rw [hA] at e; cases e
  refine bX Tryz.func64 rfl Tryz.ntmps64 eZ ?_
  repeat' (first | (refine aE rfl rfl ?_; refine m8 rfl rfl (fun hA => ?_) (fun a hA => ?_) <;> refine aB ?_) | (apply aF) | (apply aA) | (apply bN) | (apply bE) | (apply aK; exact rfl) | (apply aI; exact rfl) | (apply aG) | (apply aD) | (apply bO) | (refine aE rfl rfl ?_; ((first | refine aH ?_ | refine aX ?_)); refine aB ?_) | (refine bG rfl rfl ?_; ((refine bH (by decide) fD rfl (fun b => ?_))); refine aB ?_))
  · have hx := hnil hA
    subst hx
    refine bC (.inl rfl) (dM rfl (bS rfl)) (cG _ R (fun w hs => hs.nilrow 5 1) (k _))
  · skip
    repeat' (fail)
    refine eF (.row (.slice (some ⟨b, 0, none⟩) 0 0) 5 1 0 [] :: H) R (fun w hs => hs.torow (i := 0) (cs := []) (sp := []) (n := 0) (cap := 0) (size := 1) rfl rfl rfl (by omega) (by decide)) ?_
    repeat' (fail)
    refine bG rfl rfl ?_
    refine oX 0 rfl rfl aV rfl rfl (by omega) (by omega) (fun v' => ?_)
    refine aB ?_
    refine T_hp (by simp only [List.set_cons_zero, Nat.zero_add, List.nil_append]; rfl) ?_
    repeat' (first | (apply bN) | (apply aG) | (apply aD) | (refine aE rfl rfl ?_; ((refine aX ?_)); refine aB ?_))
    exact bC (.inl rfl) (dM rfl (bS rfl)) (cG _ R (fun w hs => hs) (k v'))
end Go.Proofs.YtggdljhmbckpmaaGreat
