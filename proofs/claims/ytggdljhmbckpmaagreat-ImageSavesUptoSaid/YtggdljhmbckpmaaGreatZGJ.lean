/- The law's helpers: sameOps: walk. The reference of records: Sum, four, read4, record: walks. Plain laws on drives. Plain laws on records and on the operations of an append (several texts in one). The reference of records: record: walk. -/
import Derived.Test.YtggdljhmbckpmaaGreatF14J
import Derived.Test.YtggdljhmbckpmaaGreatH1J
import Derived.Test.YtggdljhmbckpmaaGreatA18J
import Derived.Test.YtggdljhmbckpmaaGreatF9J
import Derived.Test.YtggdljhmbckpmaaGreatF11J
import Derived.Test.YtggdljhmbckpmaaGreatE5J
import Derived.Test.YtggdljhmbckpmaaGreatF7J
import Derived.Test.YtggdljhmbckpmaaGreatF3J
set_option linter.unusedVariables false
set_option linter.unusedSimpArgs false
namespace Go.Proofs.YtggdljhmbckpmaaGreat
open Go Go.RowKit
set_option maxRecDepth 100000
set_option maxHeartbeats 1600000

theorem p8 {w0 : World} {H : List Hp} {R : List MP} {K : Value → List Hp → List MP → Prop} (A : Option Addr) (m c : Nat) (A2 : Option Addr) (m2 c2 : Nat) (xs : List DO) (hx : xs.length ≤ 9223372036854775806) (e1 : m = xs.length) (e2 : m2 = xs.length) (h1 : Sl (.slice A m c) xs ∈ R) (h2 : Sl (.slice A2 m2 c2) xs ∈ R)
    (k : K (.bool true) H R) : CallsK Tryz.prog w0 19 #[.slice A m c, .slice A2 m2 c2] H R K := by
  subst e1; subst e2
  refine bV Tryz.func19 rfl Tryz.ntmps19 fI ?_
  repeat' (first | (apply aU; exact rfl; refine eD rfl rfl (fun h => absurd rfl h) (fun hh => ?_); refine aB ?_) | (apply aF) | (apply aA) | (apply aV) | (apply bF) | (apply aJ; exact rfl) | (apply aH) | (apply aD) | (refine aE rfl rfl ?_; ((first | refine aG ?_ | refine aY ?_ | refine bS rfl ?_)); refine aB ?_))
  refine cM [4, 5, 11, 12, 13, 14, 15, 16, 17, 18, 19, 20, 21, 22, 23, 24, 25, 26, 27, 28, 29, 30, 31, 32, 33, 34, 35, 36, 37, 38, 39, 40, 41, 42, 43, 44, 45, 46, 47, 48, 49, 50, 51, 52, 53, 54] (fun m j H' R' => H = H' ∧ R = R' ∧ ∃ i : Nat, i + m = xs.length ∧ j 5 = .int .i64 (i : Int)) xs.length eS ⟨rfl, rfl, 0, by omega, rfl⟩ ?_
  rintro m j H' R' ⟨hH, hR, i, hi, h5⟩
  subst hH; subst hR
  refine dD (by simp only [eF, List.foldl_cons, List.foldl_nil, List.set_cons_succ, List.set_cons_zero, h5]; rfl) ?_
  repeat' (first | (apply aF) | (apply aA) | (apply aV) | (apply bP) | (apply bF) | (apply cG) | (apply aK; exact rfl) | (apply aJ; exact rfl) | (apply aH) | (apply aD) | (apply aW) | (apply aS) | (apply aU; exact rfl; ((refine bQ rfl rfl (fun h => ?_) (fun h => ?_))) <;> (refine aB ?_)) | (refine aE rfl rfl ?_; ((first | refine aG ?_ | refine aY ?_ | refine bS rfl ?_)); refine aB ?_))
  · skip
    refine eC fK jN (fun _ _ _ _ _ _ h => h) (List.Sublist.refl _) ?_
    all_goals ((refine bG 0 ?_; ((refine aG ?_)); refine aI ?_))
    all_goals ((refine bG 1 ?_; ((refine aG ?_)); refine aI ?_))
    all_goals ((refine bG 2 ?_; ((refine gX eR rfl aX (List.getElem?_eq_getElem aO) (fun b o A c hI hI2 hL => ?_))); refine aI ?_))
    all_goals ((refine bG 3 ?_; ((refine aC rfl ?_)); refine aI ?_))
    all_goals ((refine bG 4 ?_; ((refine aQ rfl cL rfl ?_)); refine aI ?_))
    all_goals ((refine bG 5 ?_; ((refine aG ?_)); refine aI ?_))
    all_goals ((refine bG 6 ?_; ((refine aG ?_)); refine aI ?_))
    all_goals ((refine bG 7 ?_; ((refine gX eR rfl aX (List.getElem?_eq_getElem aO) (fun b o A c hI hI2 hL => ?_))); refine aI ?_))
    all_goals ((refine bG 8 ?_; ((refine aC rfl ?_)); refine aI ?_))
    all_goals ((refine bG 9 ?_; ((refine aQ rfl cL rfl ?_)); refine aI ?_))
    all_goals ((refine bG 10 ?_; ((refine eD rfl rfl (fun h => ?_) (fun h => ?_))) <;> (first | (exfalso; omega) | refine aI ?_)))
    all_goals ((refine bG 11 ?_; ((refine aG ?_)); refine aI ?_))
    all_goals ((refine bG 12 ?_; ((refine aG ?_)); refine aI ?_))
    all_goals ((refine bG 13 ?_; ((refine aG ?_)); refine aI ?_))
    all_goals ((refine bG 14 ?_; ((refine gX eR rfl aX (List.getElem?_eq_getElem aO) (fun b o A c hI hI2 hL => ?_))); refine aI ?_))
    all_goals ((refine bG 15 ?_; ((refine aC rfl ?_)); refine aI ?_))
    all_goals ((refine bG 16 ?_; ((refine aQ rfl cL rfl ?_)); refine aI ?_))
    all_goals ((refine bG 17 ?_; ((refine aG ?_)); refine aI ?_))
    all_goals ((refine bG 18 ?_; ((refine aG ?_)); refine aI ?_))
    all_goals ((refine bG 19 ?_; ((refine gX eR rfl aX (List.getElem?_eq_getElem aO) (fun b o A c hI hI2 hL => ?_))); refine aI ?_))
    all_goals ((refine bG 20 ?_; ((refine aC rfl ?_)); refine aI ?_))
    all_goals ((refine bG 21 ?_; ((refine aQ rfl cL rfl ?_)); refine aI ?_))
    all_goals ((refine bG 22 ?_; ((refine eD rfl rfl (fun h => ?_) (fun h => ?_))) <;> (first | (exfalso; omega) | refine aI ?_)))
    all_goals ((refine bG 23 ?_; ((refine cH rfl eR ?_)); refine aI ?_))
    all_goals ((refine bG 24 ?_; ((refine aG ?_)); refine aI ?_))
    all_goals ((refine bG 25 ?_; ((refine aG ?_)); refine aI ?_))
    all_goals ((refine bG 26 ?_; ((refine aG ?_)); refine aI ?_))
    all_goals ((refine bG 27 ?_; ((refine gX eR rfl aX (List.getElem?_eq_getElem aO) (fun b o A c hI hI2 hL => ?_))); refine aI ?_))
    all_goals ((refine bG 28 ?_; ((refine aC rfl ?_)); refine aI ?_))
    all_goals ((refine bG 29 ?_; ((refine aQ rfl cL rfl ?_)); refine aI ?_))
    all_goals ((refine bG 30 ?_; ((refine aG ?_)); refine aI ?_))
    all_goals ((refine bG 31 ?_; ((refine aG ?_)); refine aI ?_))
    all_goals ((refine bG 32 ?_; ((refine gX eR rfl aX (List.getElem?_eq_getElem aO) (fun b o A c hI hI2 hL => ?_))); refine aI ?_))
    all_goals ((refine bG 33 ?_; ((refine aC rfl ?_)); refine aI ?_))
    all_goals ((refine bG 34 ?_; ((refine aQ rfl cL rfl ?_)); refine aI ?_))
    -- left: [35, 36, 37]; ready: [35]: ['call']
    refine gE 35 ?_
    refine aT fA ?_; refine vK _ _ _ _ _ _ xs[i].data xs[i].data aX aX (fun _ => ?_) (fun h => absurd rfl h)
    refine ⟨.inl dV, ?_⟩; refine aI ?_
    all_goals ((refine bG 36 ?_; ((refine dJ rfl ?_)); refine aI ?_))
    all_goals ((refine bG 37 ?_; ((refine cH rfl eR ?_)); refine aI ?_))
    all_goals refine iC ?_
    repeat' (first | (apply aA) | (apply bF) | (apply aJ; exact rfl) | (apply aH) | (apply aD) | (apply bU) | (apply aU; exact rfl; ((refine bM rfl rfl aO aO ?_)); refine aB ?_) | (refine aE rfl rfl ?_; ((first | refine aG ?_ | refine aY ?_)); refine aB ?_))
    refine cJ (m - 1) _ R aO eS ⟨rfl, rfl, i + 1, by omega, rfl⟩ dV
  · skip
    repeat' (fail)
    exact aZ (.inl rfl) (dP rfl (bR rfl)) (cA H R dV k)
end Go.Proofs.YtggdljhmbckpmaaGreat
namespace Go.Proofs.YtggdljhmbckpmaaGreat
open Go Go.RowKit
set_option maxRecDepth 100000
set_option maxHeartbeats 1600000

section
variable {P : Program} {w0 : World} {E : List Value} {H : List Hp} {R : List MP} {ty : TypeId} {K : Value → List MP → Prop}
theorem xF {t e : TypeId} {x ix : Operand} {agg : Bool} {by_ : Nat} {z0 : Value} [h : TyU P t (.slice e)] [he : Ty P e agg 1 by_ z0] {v : Value} {xs : List UInt8} {k : IntKind} {z : Int} (i : Nat) {d : UInt8} (hx : ev E x = v) (hix : ev E ix = .int k z) (hm : Sl v xs ∈ R) (hz : z = (i : Int)) (hd : xs[i]? = some d)
    (kk : ∀ b o, K (.pointer (some ⟨b, o, none⟩)) (At b o [fH d] :: R)) : PW P w0 E (.indexAddr t x ix) ty H R K := by
  subst hz; exact iQ hx hix hm hd kk
end
theorem vO {w0 : World} {H : List Hp} {R : List MP} {K : Value → List Hp → List MP → Prop} (A : Option Addr) (m c : Nat) (xs : List UInt8) (hml : m = xs.length) (hb : xs.length ≤ 9223372036854775807) (hm : Sl (.slice A m c) xs ∈ R)
    (k : K (.int .u32 (jU xs : Nat)) H R) : CallsK Tryz.prog w0 63 #[.slice A m c] H R K := by
  subst hml
  refine bV Tryz.func63 rfl Tryz.ntmps63 fI ?_
  repeat' (first | (apply aF) | (apply aA) | (apply aV) | (apply aH) | (apply aD) | (refine aE rfl rfl ?_; ((refine aY ?_)); refine aB ?_))
  refine cM [3, 4, 5, 6, 7, 8, 9, 10, 11, 12, 13, 14, 15, 16, 17, 18] (fun m j H' R' => H' = H ∧ R = R' ∧ ∃ i : Nat, i + m = xs.length ∧ j 4 = .int .i64 i ∧ j 3 = .int .u32 ((xs.take i).foldl fnv 2166136261 : Nat)) xs.length eS ⟨rfl, rfl, 0, by omega, rfl, rfl⟩ ?_
  rintro m j H' R' ⟨rfl, hR, i, hi, h4, h3⟩
  subst hR
  refine dD (by simp only [eF, List.foldl_cons, List.foldl_nil, List.set_cons_succ, List.set_cons_zero, h4, h3]; rfl) ?_
  repeat' (first | (refine aE rfl rfl ?_; ((first | refine hJ rfl ?_ | refine pw_xor rfl rfl rfl (lG _ _ aO) (Nat.lt_of_lt_of_le (UInt8.toNat_lt _) cQ) ?_ | refine j8 (b := 16777619) rfl rfl rfl ?_)); refine aB ?_) | (apply aF) | (apply aA) | (apply aV) | (apply bP) | (apply bF) | (apply cG) | (apply aK; exact rfl) | (apply aJ; exact rfl) | (apply aH) | (apply aD) | (apply aW) | (apply bU) | (apply aS) | (apply aP; exact rfl; ((refine bD rfl cL rfl ?_)); refine aB ?_) | (apply aU; exact rfl; ((refine bM rfl rfl aO aO ?_)); refine aB ?_) | (apply aU; exact rfl; ((refine bQ rfl rfl (fun h => ?_) (fun h => ?_))) <;> (refine aB ?_)) | (apply gZ; exact rfl; ((refine iQ eR rfl aX (List.getElem?_eq_getElem aO) (fun b o => ?_))); refine aB ?_) | (refine aE rfl rfl ?_; ((first | refine aG ?_ | refine aY ?_ | refine bS rfl ?_)); refine aB ?_))
  · refine cJ (m - 1) H' R aO eS ⟨rfl, rfl, i + 1, by omega, rfl, ?_⟩ dV
    exact congrArg (fun n : Nat => Value.int .u32 (n : Int)) (vH xs i aO).symm
  · refine aZ (.inl rfl) (dP rfl (bR rfl)) (cA H' R (fun _ h => h) ?_)
    rw [List.take_of_length_le aO]
    exact k
theorem rfour_k {w0 : World} {H : List Hp} {R : List MP} {K : Value → List Hp → List MP → Prop} (n : Nat) (hn : n < 4294967296)
    (k : ∀ v, K v (.row v 5 1 4 (bC (lZ n)) :: H) R) : CallsK Tryz.prog w0 62 #[.int .u32 n] H R K := by
  refine bV Tryz.func62 rfl Tryz.ntmps62 fI ?_
  repeat' (first | (refine aE rfl rfl ?_; ((first | refine lN rfl rfl ?_ | refine lX (n := 8) rfl rfl cQ ?_ | refine lX (n := 16) rfl rfl cQ ?_ | refine lX (n := 24) rfl rfl cQ ?_)); refine aB ?_) | (apply aF) | (apply aA) | (apply bP) | (apply aH) | (apply aD) | (refine aE rfl rfl ?_; ((first | refine aG ?_ | refine aY ?_)); refine aB ?_) | (refine bJ rfl rfl ?_; ((refine bK cQ fP rfl (fun b => ?_))); refine aB ?_))
  refine aZ (.inl rfl) (dP rfl (bR rfl)) (cA (.row (.slice (some ⟨b, 0, none⟩) 4 4) 5 1 4 (bC (lZ n)) :: H) R (fun w hs => ?_) (k _))
  have hs' : S w0 w (.blk b (bC (lZ n) ++ []) 5 :: H) R := by
    simp only [List.append_nil, bC, lZ, List.map_cons, List.map_nil, ← sI]
    exact hs
  exact hs'.torow (i := 0) (n := 4) (cap := 4) (size := 1) rfl (by simp [lZ]) (by simp [lZ]) aO cQ
theorem nV {w0 : World} {H : List Hp} {R : List MP} {K : Value → List Hp → List MP → Prop} (A : Option Addr) (c : Nat) (xs : List UInt8) (z : Int) (i : Nat) (hz : z = (i : Int)) (hi : i + 4 ≤ xs.length) (hb : xs.length ≤ 600000) (hm : Sl (.slice A xs.length c) xs ∈ R)
    (k : K (.int .u32 (eN (xs.drop i) : Nat)) H R) : CallsK Tryz.prog w0 156 #[.slice A xs.length c, .int .i64 z] H R K := by
  subst hz
  refine bV Tryz.func156 rfl Tryz.ntmps156 fI ?_
  repeat' (first | (apply aF) | (apply aA) | (apply aH) | (apply aD) | (refine aE rfl rfl ?_; ((refine aY ?_)); refine aB ?_))
  refine eC fK jN (fun _ _ _ _ _ _ h => h) (List.Sublist.refl _) ?_
  all_goals ((refine bG 0 ?_; ((refine aG ?_)); refine aI ?_))
  all_goals ((refine bG 1 ?_; ((refine aG ?_)); refine aI ?_))
  all_goals ((refine bG 2 ?_; ((refine xF i rfl rfl hm rfl (List.getElem?_eq_getElem aO) (fun b o => ?_))); refine aI ?_))
  all_goals ((refine bG 3 ?_; ((refine bD rfl cL rfl ?_)); refine aI ?_))
  all_goals ((refine bG 4 ?_; ((refine hJ eR ?_)); refine aI ?_))
  all_goals ((refine bG 5 ?_; ((refine aG ?_)); refine aI ?_))
  all_goals ((refine bG 6 ?_; ((refine aG ?_)); refine aI ?_))
  all_goals ((refine bG 7 ?_; ((refine bM rfl rfl aO aO ?_)); refine aI ?_))
  all_goals ((refine bG 8 ?_; ((refine fT eR rfl aX (List.getElem?_eq_getElem aO) aO (fun b o => ?_))); refine aI ?_))
  all_goals ((refine bG 9 ?_; ((refine bD rfl cL rfl ?_)); refine aI ?_))
  all_goals ((refine bG 10 ?_; ((refine hJ eR ?_)); refine aI ?_))
  all_goals ((refine bG 11 ?_; ((refine mK (n := 8) rfl rfl rfl cQ ?_)); refine aI ?_))
  all_goals ((refine bG 12 ?_; ((refine qJ rfl rfl rfl (by repeat' ((exact Nat.lt_of_lt_of_le (UInt8.toNat_lt _) cQ))) (by repeat' ((exact Nat.mod_lt _ cQ))) ?_)); refine aI ?_))
  all_goals ((refine bG 13 ?_; ((refine aG ?_)); refine aI ?_))
  all_goals ((refine bG 14 ?_; ((refine aG ?_)); refine aI ?_))
  all_goals ((refine bG 15 ?_; ((refine bM rfl rfl aO aO ?_)); refine aI ?_))
  all_goals ((refine bG 16 ?_; ((refine fT eR rfl aX (List.getElem?_eq_getElem aO) aO (fun b o => ?_))); refine aI ?_))
  all_goals ((refine bG 17 ?_; ((refine bD rfl cL rfl ?_)); refine aI ?_))
  all_goals ((refine bG 18 ?_; ((refine hJ eR ?_)); refine aI ?_))
  all_goals ((refine bG 19 ?_; ((refine mK (n := 16) rfl rfl rfl cQ ?_)); refine aI ?_))
  all_goals ((refine bG 20 ?_; ((refine qJ rfl rfl rfl (by repeat' ((first | exact Nat.mod_lt _ cQ | exact Nat.lt_of_lt_of_le (UInt8.toNat_lt _) cQ | refine Nat.or_lt_two_pow ?_ ?_))) (by repeat' ((exact Nat.mod_lt _ cQ))) ?_)); refine aI ?_))
  all_goals ((refine bG 21 ?_; ((refine aG ?_)); refine aI ?_))
  all_goals ((refine bG 22 ?_; ((refine aG ?_)); refine aI ?_))
  all_goals ((refine bG 23 ?_; ((refine bM rfl rfl aO aO ?_)); refine aI ?_))
  all_goals ((refine bG 24 ?_; ((refine fT eR rfl aX (List.getElem?_eq_getElem aO) aO (fun b o => ?_))); refine aI ?_))
  all_goals ((refine bG 25 ?_; ((refine bD rfl cL rfl ?_)); refine aI ?_))
  all_goals ((refine bG 26 ?_; ((refine hJ eR ?_)); refine aI ?_))
  all_goals ((refine bG 27 ?_; ((refine mK (n := 24) rfl rfl rfl cQ ?_)); refine aI ?_))
  all_goals ((refine bG 28 ?_; ((refine qJ rfl rfl rfl (by repeat' ((first | exact Nat.mod_lt _ cQ | exact Nat.lt_of_lt_of_le (UInt8.toNat_lt _) cQ | refine Nat.or_lt_two_pow ?_ ?_))) (by repeat' ((exact Nat.mod_lt _ cQ))) ?_)); refine aI ?_))
  all_goals ((refine bG 29 ?_; ((refine aY ?_)); refine aI ?_))
  all_goals refine iC ?_
  repeat' (first | (apply bP) | (apply aD))
  refine aZ (.inl rfl) (dP rfl (bR rfl)) (cA H R dV ?_)
  refine K_nat (b := eN (xs.drop i)) ?_ k
  have g : ∀ q (h : i + q < xs.length), (xs.drop i).getD q 0 = xs[i + q] := fun q h => by simp [List.getD, List.getElem?_drop, h]
  simp only [eN, four, g 0 aO, g 1 aO, g 2 aO, g 3 aO]
  rfl
/-- A record that is read, as the reference has it. -/
def uG (xs : List UInt8) (at_ limit : Nat) : RecD × Bool := if (fU xs at_ limit).2 then ((fU xs at_ limit).1.toR, true) else (⟨0, 0, 0, 0⟩, false)
abbrev rdV (r : RecD) : Value := .agg #[.int .i64 r.at_, .int .i64 r.epoch, .int .i64 r.seq, .int .i64 r.len]
end Go.Proofs.YtggdljhmbckpmaaGreat
namespace Go.Proofs.YtggdljhmbckpmaaGreat

end Go.Proofs.YtggdljhmbckpmaaGreat
namespace Go.Proofs.YtggdljhmbckpmaaGreat
/- Plain laws on records: what lies elsewhere is of no weight. -/
/-! ### numbers of four bytes -/
/-! ### the sum -/
/-! ### agreement -/
theorem xV {b : List UInt8} {at_ limit : Nat} (hl : limit ≤ b.length) (h : (fU b at_ limit).2 = true) : at_ + 17 ≤ limit ∧ b.getD at_ 0 = 167 ∧ eN (b.drop (at_ + 13)) = jU ((b.take (at_ + 13)).drop (at_ + 1)) ∧ at_ + 21 + eN (b.drop (at_ + 9)) ≤ limit ∧
    eN (b.drop (at_ + 17 + eN (b.drop (at_ + 9)))) = jU ((b.take (at_ + 17 + eN (b.drop (at_ + 9)))).drop (at_ + 17)) ∧
    (fU b at_ limit).1 = ⟨at_, eN (b.drop (at_ + 1)), eN (b.drop (at_ + 5)), (b.take (at_ + 17 + eN (b.drop (at_ + 9)))).drop (at_ + 17)⟩ ∧ (fU b at_ limit).1.data.length = eN (b.drop (at_ + 9)) := by
  unfold fU at h ⊢
  split at h
  · cases h
  split at h
  · cases h
  split at h
  · cases h
  split at h
  · cases h
  rename_i h1 h2 h3 h4
  rw [if_neg h1, if_neg h2, if_neg h3, if_neg h4]
  have h5 := of_decide_eq_true h
  refine ⟨by omega, by simpa using h2, by simpa using h3, by omega, h5, rfl, ?_⟩
  simp only [List.length_drop, List.length_take]; omega
/- Plain laws on records: chains of records, the current half, a record appended. -/
def jK : Nat → List Rc → Nat
  | a, [] => a
  | a, r :: l => jK r.stop l
def epL : Option Nat → List Rc → Option Nat
  | e, [] => e
  | e, r :: l => epL (some r.epoch) l
theorem zR {b : List UInt8} {limit : Nat} (hl : limit ≤ b.length) (hl6 : limit ≤ 600000) : ∀ (m at_ seq : Nat) (ep : Option Nat) (k : Nat), at_ ≤ limit → at_ + 21 * ((iF b limit m at_ seq ep).take k).length ≤ jK at_ ((iF b limit m at_ seq ep).take k) ∧ jK at_ ((iF b limit m at_ seq ep).take k) ≤ limit
  | 0, at_, seq, ep, k, h => by simp [iF, jK]; exact h
  | m + 1, at_, seq, ep, 0, h => by simp [jK]; exact h
  | m + 1, at_, seq, ep, k + 1, h => by
    unfold iF
    split
    · rename_i hc
      obtain ⟨h1, h2, h3, h4⟩ := oP hl6 hc.1
      have ih := zR hl hl6 m (fU b at_ limit).1.stop (seq + 1) (some (fU b at_ limit).1.epoch) k h3
      simp only [List.take_succ_cons, List.length_cons, jK]
      omega
    · simp [jK]; exact h
/-- Each record of a chain: where it stands, its number, its epoch; and that it is read there. -/
theorem tG {b : List UInt8} {limit : Nat} (hl : limit ≤ b.length) (hl6 : limit ≤ 600000) : ∀ (m at_ seq : Nat) (ep : Option Nat), at_ ≤ limit → ∀ i (hi : i < (iF b limit m at_ seq ep).length),
    (iF b limit m at_ seq ep)[i].at_ = jK at_ ((iF b limit m at_ seq ep).take i) ∧ (iF b limit m at_ seq ep)[i].seq = seq + i ∧ (∀ e, ep = some e → (iF b limit m at_ seq ep)[i].epoch = e) ∧ (iF b limit m at_ seq ep)[i].epoch = ((iF b limit m at_ seq ep)[0]'aO).epoch ∧
    fU b (iF b limit m at_ seq ep)[i].at_ limit = ((iF b limit m at_ seq ep)[i], true) ∧ jK at_ ((iF b limit m at_ seq ep).take (i + 1)) = (iF b limit m at_ seq ep)[i].stop
  | 0, at_, seq, ep, h, i, hi => by simp [iF] at hi
  | m + 1, at_, seq, ep, h, i, hi => by
    by_cases hc : (fU b at_ limit).2 = true ∧ (fU b at_ limit).1.seq = seq ∧ (∀ e, ep = some e → (fU b at_ limit).1.epoch = e)
    · have e1 : iF b limit (m + 1) at_ seq ep = (fU b at_ limit).1 :: iF b limit m (fU b at_ limit).1.stop (seq + 1) (some (fU b at_ limit).1.epoch) := by rw [iF, if_pos hc]
      simp only [e1] at hi ⊢
      obtain ⟨h1, h2, h3, h4⟩ := oP hl6 hc.1
      cases i with
      | zero =>
        refine ⟨by simpa [jK] using h2, hc.2.1, hc.2.2, rfl, ?_, by simp [jK]⟩
        simp only [List.getElem_cons_zero]
        rw [h2]
        exact Prod.ext rfl hc.1
      | succ i =>
        simp only [List.length_cons] at hi
        have ih := tG hl hl6 m (fU b at_ limit).1.stop (seq + 1) (some (fU b at_ limit).1.epoch) h3 i aO
        obtain ⟨i1, i2, i3, i4, i5, i6⟩ := ih
        simp only [List.getElem_cons_succ, List.getElem_cons_zero, List.take_succ_cons, jK]
        refine ⟨i1, by omega, fun e he => ?_, ?_, i5, i6⟩
        · rw [i3 _ rfl]; exact hc.2.2 e he
        · exact i3 _ rfl
    · have e1 : iF b limit (m + 1) at_ seq ep = [] := by rw [iF, if_neg hc]
      simp [e1] at hi
theorem vI : ∀ (l : List Rc) (ep : Option Nat) (e : Nat), (∀ r ∈ l, r.epoch = e) → (l = [] → ep = some e) → epL ep l = some e
  | [], ep, e, h, h0 => h0 rfl
  | r :: l, ep, e, h, h0 => vI l (some r.epoch) e (fun x hx => h x (by simp [hx])) (fun _ => by rw [h r dB])

/-! ### the halves -/
theorem recsB0 {b : List UInt8} : eP b 0 = iF b (b.length / 2) (b.length + 1) 0 0 none := by simp [eP]
theorem recsB1 {b : List UInt8} : eP b 1 = iF b b.length (b.length + 1) (b.length / 2) 0 none := by
  unfold eP
  rw [show (1 + 1) * b.length / 2 = b.length by omega, Nat.one_mul]
theorem uX (xs : List UInt8) (h : Nat) : lH xs (h + 1) = if 0 < (eP xs h).length ∧ ((lH xs h).1.length = 0 ∨ ((lH xs h).1.getD 0 Rc.zero).epoch < ((eP xs h).getD 0 Rc.zero).epoch) then (eP xs h, h) else lH xs h := rfl
theorem curN_one (b : List UInt8) : lH b 1 = (eP b 0, 0) := by
  rw [uX]
  by_cases h : 0 < (eP b 0).length
  · rw [if_pos ⟨h, .inl rfl⟩]
  · rw [if_neg (fun hh => h hh.1)]
    have : eP b 0 = [] := List.eq_nil_of_length_eq_zero aO
    rw [this]; rfl
theorem pB (b : List UInt8) : jA b = if 0 < (eP b 1).length ∧ ((eP b 0).length = 0 ∨ ((eP b 0).getD 0 Rc.zero).epoch < ((eP b 1).getD 0 Rc.zero).epoch) then (eP b 1, 1) else (eP b 0, 0) := by
  unfold jA
  rw [uX]
  simp only [curN_one]
/-- A half's first place and limit. -/
def w8 (b : List UInt8) (h : Nat) : Nat := h * b.length / 2
def hiH (b : List UInt8) (h : Nat) : Nat := (h + 1) * b.length / 2
theorem tA {b : List UInt8} {h : Nat} (hh : h ≤ 1) : w8 b h ≤ hiH b h ∧ hiH b h ≤ b.length := by
  unfold w8 hiH
  rcases (show h = 0 ∨ h = 1 by omega) with rfl | rfl <;> simp <;> omega
/-- What is known of the records of a half. -/
theorem sJ {b : List UInt8} {h : Nat} (hb : b.length ≤ 600000) (hh : h ≤ 1) (i : Nat) (hi : i < (eP b h).length) :
    (eP b h)[i].at_ = jK (w8 b h) ((eP b h).take i) ∧ (eP b h)[i].seq = i ∧ (eP b h)[i].epoch = ((eP b h)[0]'aO).epoch ∧
    fU b (eP b h)[i].at_ (hiH b h) = ((eP b h)[i], true) ∧ jK (w8 b h) ((eP b h).take (i + 1)) = (eP b h)[i].stop := by
  have hle := tA (b := b) hh
  obtain ⟨h1, h2, h3, h4, h5, h6⟩ := tG (b := b) hle.2 aO (b.length + 1) (w8 b h) 0 none hle.1 i hi
  exact ⟨h1, by rw [Nat.zero_add] at h2; exact h2, h4, h5, h6⟩
theorem r7 {b : List UInt8} {h : Nat} (hb : b.length ≤ 600000) (hh : h ≤ 1) (k : Nat) : w8 b h + 21 * ((eP b h).take k).length ≤ jK (w8 b h) ((eP b h).take k) ∧ jK (w8 b h) ((eP b h).take k) ≤ hiH b h :=
  zR (tA (b := b) hh).2 (by have := (tA (b := b) hh).2; omega) (b.length + 1) (w8 b h) 0 none k (tA (b := b) hh).1
/- Plain laws on records: the current half behind an append, or in the midst of one. -/
theorem rS {b : List UInt8} {l : List Rc} {half : Nat} (h : jA b = (l, half)) : half ≤ 1 ∧ l = eP b half ∧ (l = [] → half = 0 ∧ eP b 0 = [] ∧ eP b 1 = []) ∧
    (half = 0 → eP b 1 = [] ∨ (0 < l.length ∧ ¬ (l.getD 0 Rc.zero).epoch < ((eP b 1).getD 0 Rc.zero).epoch)) ∧ (half = 1 → eP b 0 = [] ∨ ((eP b 0).getD 0 Rc.zero).epoch < (l.getD 0 Rc.zero).epoch) := by
  rw [pB] at h
  split at h
  · rename_i hc
    injection h with h1 h2
    subst h1 h2
    refine ⟨Nat.le_refl _, rfl, fun h0 => ?_, fun h0 => (by cases h0), fun _ => ?_⟩
    · rw [h0] at hc; simp at hc
    · rcases hc.2 with h | h
      · exact .inl (List.eq_nil_of_length_eq_zero h)
      · exact .inr h
  · rename_i hc
    injection h with h1 h2
    subst h1 h2
    have h3 : eP b 1 = [] ∨ (0 < (eP b 0).length ∧ ¬ ((eP b 0).getD 0 Rc.zero).epoch < ((eP b 1).getD 0 Rc.zero).epoch) := by
      rcases Nat.eq_zero_or_pos (eP b 1).length with h | h
      · exact .inl (List.eq_nil_of_length_eq_zero h)
      · refine .inr ⟨?_, fun hh => hc ⟨h, .inr hh⟩⟩
        rcases Nat.eq_zero_or_pos (eP b 0).length with h' | h'
        · exact absurd ⟨h, .inl h'⟩ hc
        · exact h'
    refine ⟨Nat.zero_le _, rfl, fun h0 => ⟨rfl, h0, ?_⟩, fun _ => h3, fun h0 => by cases h0⟩
    rcases h3 with h3 | h3
    · exact h3
    · rw [h0] at h3; simp at h3
theorem loH_eq {b : List UInt8} {size h : Nat} (hb : b.length = 2 * size) : w8 b h = h * size := by
  unfold w8; rw [hb, Nat.mul_left_comm, Nat.mul_div_cancel_left _ cQ]
theorem hiH_eq {b : List UInt8} {size h : Nat} (hb : b.length = 2 * size) : hiH b h = (h + 1) * size := by
  unfold hiH; rw [hb, Nat.mul_left_comm, Nat.mul_div_cancel_left _ cQ]
theorem chain_of {b : List UInt8} {l : List Rc} {h : Nat} (hb : b.length ≤ 600000) (hh : h ≤ 1) (e : l = eP b h) : ∀ i (hi : i < l.length),
    l[i].at_ = jK (w8 b h) (l.take i) ∧ l[i].seq = i ∧ l[i].epoch = (l[0]'aO).epoch ∧ fU b l[i].at_ (hiH b h) = (l[i], true) ∧ jK (w8 b h) (l.take (i + 1)) = l[i].stop := by
  subst e; exact sJ hb hh
/- Plain laws: what the operations of an append make of a drive without pending writes, done up to any of them. -/
/-- What an append is about. -/
structure App (d : Drive) (data : List UInt8) (l : List Rc) (half size : Nat) (p : Spot) (z : List UInt8) : Prop where
  ok : eW d = true
  bare : d.pending = []
  len : d.bytes.length = 2 * size
  small : size ≤ 300000
  cur : jA d.bytes = (l, half)
  room : 21 + data.length ≤ size
  spot : mE l half size (21 + data.length) = p
  ep : p.epoch ≤ 2147483647
  sq : p.seq ≤ 2147483647
  z1 : z = if p.at_ + (21 + data.length) < (p.half + 1) * size then [0] else []
section
variable {d : Drive} {data : List UInt8} {l : List Rc} {half size : Nat} {p : Spot} {z : List UInt8}
end

/- Plain laws: the data of the records that are read. -/
/-- A record of the current half: where it stands, and its data. -/
theorem vN {b : List UInt8} {l : List Rc} {half size : Nat} (hb : b.length = 2 * size) (hs : size ≤ 300000) (hcur : jA b = (l, half)) (i : Nat) (r : Rc) (hi : l[i]? = some r) :
    r.at_ = jK (half * size) (l.take i) ∧ r.seq = i ∧ r.epoch = (l.getD 0 Rc.zero).epoch ∧ jK (half * size) (l.take (i + 1)) = r.at_ + 21 + r.data.length ∧ r.at_ + 21 + r.data.length ≤ (half + 1) * size ∧ (half + 1) * size ≤ b.length ∧
    fU b r.at_ ((half + 1) * size) = (r, true) ∧ (b.take (r.at_ + 17 + r.data.length)).drop (r.at_ + 17) = r.data := by
  obtain ⟨c1, c2, _⟩ := rS hcur
  obtain ⟨hil, rfl⟩ := List.getElem?_eq_some_iff.1 hi
  obtain ⟨h1, h2, h3, h4, h5⟩ := chain_of aO c1 c2 i hil
  have hen := (r7 (b := b) (h := half) aO c1 (i + 1)).2
  have hlo := loH_eq (h := half) hb
  have hhi := hiH_eq (h := half) hb
  rw [← c2, hhi] at hen
  rw [hlo] at h1 h5 hen
  rw [hhi] at h4
  have h6 : (half + 1) * size ≤ 2 * size := Nat.mul_le_mul_right _ aO
  obtain ⟨g1, g2, g3, g4, g5, g6, g7⟩ := xV (b := b) (at_ := l[i].at_) (limit := (half + 1) * size) aO (by rw [h4])
  rw [h4] at g6 g7
  simp only at g6 g7
  refine ⟨h1, h2, ?_, h5, by rw [h5] at hen; exact hen, by omega, h4, ?_⟩
  · rw [h3, oX l aO]
  · rw [g7]
    have := congrArg Rc.data g6
    exact this.symm
/- Plain laws: the power fails behind any of the operations of an append. -/
section
variable {d : Drive} {data : List UInt8} {l : List Rc} {half size : Nat} {p : Spot} {z : List UInt8}
end
end Go.Proofs.YtggdljhmbckpmaaGreat
namespace Go.Proofs.YtggdljhmbckpmaaGreat
open Go Go.RowKit
set_option maxRecDepth 100000
set_option maxHeartbeats 1600000

theorem lU {xs : List UInt8} {at_ limit : Nat} (hl : limit ≤ xs.length) (h : limit < at_ + 17 ∨ xs.getD at_ 0 ≠ 167 ∨ jU ((xs.take (at_ + 13)).drop (at_ + 1)) ≠ eN (xs.drop (at_ + 13)) ∨ limit < at_ + 21 + eN (xs.drop (at_ + 9)) ∨
    jU ((xs.take (at_ + 17 + eN (xs.drop (at_ + 9)))).drop (at_ + 17)) ≠ eN (xs.drop (at_ + 17 + eN (xs.drop (at_ + 9))))) : (fU xs at_ limit).2 = false := by
  cases hx : (fU xs at_ limit).2 with
  | false => rfl
  | true =>
    exfalso
    obtain ⟨g1, g2, g3, g4, g5, g6, g7⟩ := xV hl hx
    rcases h with h | h | h | h | h
    · omega
    · exact h g2
    · exact h g3.symm
    · omega
    · exact h g5.symm
theorem p3 {xs : List UInt8} {at_ limit : Nat} (hl : limit ≤ xs.length) (h1 : at_ + 17 ≤ limit) (h2 : xs.getD at_ 0 = 167) (h3 : jU ((xs.take (at_ + 13)).drop (at_ + 1)) = eN (xs.drop (at_ + 13))) (h4 : at_ + 21 + eN (xs.drop (at_ + 9)) ≤ limit)
    (h5 : jU ((xs.take (at_ + 17 + eN (xs.drop (at_ + 9)))).drop (at_ + 17)) = eN (xs.drop (at_ + 17 + eN (xs.drop (at_ + 9))))) :
    uG xs at_ limit = (⟨at_, eN (xs.drop (at_ + 1)), eN (xs.drop (at_ + 5)), eN (xs.drop (at_ + 9))⟩, true) := by
  have e : fU xs at_ limit = (⟨at_, eN (xs.drop (at_ + 1)), eN (xs.drop (at_ + 5)), (xs.take (at_ + 17 + eN (xs.drop (at_ + 9)))).drop (at_ + 17)⟩, true) := by
    unfold fU
    rw [if_neg aO, if_neg (fun hh => hh h2), if_neg (fun hh => hh h3.symm), if_neg aO]
    simp only [h5, decide_true]
  unfold uG
  rw [e]
  simp only [if_true, Rc.toR, List.length_drop, List.length_take]
  congr 2
  omega
theorem rO {w0 : World} {H : List Hp} {R : List MP} {K : Value → List Hp → List MP → Prop} (A0 : Option Addr) (c0 : Nat) (xs : List UInt8) (at_ limit : Nat) (hb : xs.length ≤ 600000) (hal : at_ ≤ limit) (hlb : limit ≤ xs.length)
    (hm : Sl (.slice A0 xs.length c0) xs ∈ R)
    (k : K (.tuple #[rdV (uG xs at_ limit).1, .bool (uG xs at_ limit).2]) H R) : CallsK Tryz.prog w0 150 #[.slice A0 xs.length c0, .int .i64 (at_ : Int), .int .i64 (limit : Int)] H R K := by
  have kno : (fU xs at_ limit).2 = false → K (.tuple #[.agg #[.int .i64 0, .int .i64 0, .int .i64 0, .int .i64 0], .bool false]) H R := fun h => by
    have e : uG xs at_ limit = (⟨0, 0, 0, 0⟩, false) := by unfold uG; rw [h]; rfl
    rw [e] at k; exact k
  have h9 := jD (xs.drop (at_ + 9))
  obtain ⟨n, hn⟩ : ∃ n, eN (xs.drop (at_ + 9)) = n := ⟨_, rfl⟩
  rw [hn] at h9
  have s1 : at_ + 17 ≤ limit → (xs.take ((at_ : Int) + 13).toNat).drop ((at_ : Int) + 1).toNat = (xs.take (at_ + 13)).drop (at_ + 1) := fun _ => by
    rw [show ((at_ : Int) + 13).toNat = at_ + 13 by omega, show ((at_ : Int) + 1).toNat = at_ + 1 by omega]
  have s2 : at_ + 17 ≤ limit → (xs.take ((at_ : Int) + 17 + (n : Int)).toNat).drop ((at_ : Int) + 17).toNat = (xs.take (at_ + 17 + n)).drop (at_ + 17) := fun _ => by
    rw [show ((at_ : Int) + 17 + (n : Int)).toNat = at_ + 17 + n by omega, show ((at_ : Int) + 17).toNat = at_ + 17 by omega]
  refine bV Tryz.func150 rfl Tryz.ntmps150 fI ?_
  repeat' (first | (apply bE; exact rfl; refine aN (i := 0) rfl cW rfl dT dB eK ?_; refine aB ?_; refine cE ?_) | (refine aE rfl rfl ?_; refine fY (xs := xs) rfl aX rfl rfl rfl rfl aO aO aO (fun A8 c8 => ?_); (first | rw [s1 aO] | rw [s2 aO]; refine aB ?_)) | (refine dK rfl ?_; refine aT fA ?_; refine vO _ _ _ ((xs.take (at_ + 13)).drop (at_ + 1)) (by simp; omega) (by simp; omega) aX ?_; refine aB ?_) | (refine dK rfl ?_; refine aT fA ?_; refine nV _ _ xs _ (at_ + 13) rfl aO hb aX ?_; refine aB ?_) | (refine dK rfl ?_; refine aT fA ?_; refine nV _ _ xs _ (at_ + 9) rfl aO hb aX ?_; rw [hn]; refine aB ?_) | (refine aE rfl rfl ?_; refine jG (a := n) rfl aO ?_; refine aB ?_) | (refine dK rfl ?_; refine aT fA ?_; refine vO _ _ _ ((xs.take (at_ + 17 + n)).drop (at_ + 17)) (by simp; omega) (by simp; omega) aX ?_; refine aB ?_) | (refine dK rfl ?_; refine aT fA ?_; refine nV _ _ xs _ (at_ + 17 + n) rfl aO hb aX ?_; refine aB ?_) | (refine dK rfl ?_; refine aT fA ?_; refine nV _ _ xs _ (at_ + 1) rfl aO hb aX ?_; refine aB ?_) | (refine dK rfl ?_; refine aT fA ?_; refine nV _ _ xs _ (at_ + 5) rfl aO hb aX ?_; refine aB ?_) | (refine aE rfl rfl ?_; refine jG rfl (Nat.le_trans (Nat.le_of_lt (jD _)) cQ) ?_; refine aB ?_) | (apply aF) | (apply aA) | (apply bP) | (apply bF) | (apply aK; exact rfl) | (apply aJ; exact rfl) | (apply aH) | (apply aD) | (apply bN) | (apply aP; exact rfl; ((refine bD rfl cL rfl ?_)); refine aB ?_) | (apply aU; exact rfl; ((first | refine bM rfl rfl aO aO ?_ | refine eY rfl rfl aO aO ?_)); refine aB ?_) | (apply aU; exact rfl; ((first | refine bQ rfl rfl (fun h => ?_) (fun h => ?_) | refine fD rfl rfl (fun h => ?_) (fun h => ?_) | refine eD rfl rfl (fun h => ?_) (fun h => ?_))) <;> (refine aB ?_)) | (apply gZ; exact rfl; ((refine iQ eR rfl aX (List.getElem?_eq_getElem aO) (fun b o => ?_))); refine aB ?_) | (refine aE rfl rfl ?_; ((first | refine aG ?_ | refine aY ?_ | refine bX rfl eR ?_ | refine cH rfl eR ?_ | refine dI gG ?_)); refine aB ?_) | (refine cX rfl ?_; refine aB ?_) | (refine bJ rfl rfl ?_; ((refine bL cW (fun b => ?_))); refine aB ?_))
  · exact aZ (.inl rfl) (iN rfl (dC (i := 0) rfl rfl rfl) (bR rfl)) (cA H R dV (kno (lU hlb (.inl aO))))
  · refine aZ (.inl rfl) (iN rfl (dC (i := 0) rfl rfl rfl) (bR rfl)) (cA H R dV (kno (lU hlb (.inr (.inl ?_)))))
    rw [mD xs at_ aO]
    intro e
    exact h (by rw [e]; rfl)
  · exact aZ (.inl rfl) (iN rfl (dC (i := 0) rfl rfl rfl) (bR rfl)) (cA H R dV (kno (lU hlb (.inr (.inr (.inl (fun e => h (by rw [e]))))))))
  · exact aZ (.inl rfl) (iN rfl (dC (i := 0) rfl rfl rfl) (bR rfl)) (cA H R dV (kno (lU hlb (.inr (.inr (.inr (.inl (by rw [hn]; omega))))))))
  · exact aZ (.inl rfl) (iN rfl (dC (i := 0) rfl rfl rfl) (bR rfl)) (cA H R dV (kno (lU hlb (.inr (.inr (.inr (.inr (by rw [hn]; exact fun e => h (by rw [e])))))))))
  · have e := p3 hlb (at_ := at_) aO (by rw [mD xs at_ aO]; exact UInt8.toNat_inj.1 (by show xs[at_].toNat = 167; omega)) aO (by rw [hn]; omega) (by rw [hn]; omega)
    rw [e, hn] at k
    exact aZ (.inl rfl) (iN rfl (dC (i := 0) rfl rfl rfl) (bR rfl)) (cA H R dV k)
end Go.Proofs.YtggdljhmbckpmaaGreat
