/- Lists of structs written: walks, printed by gen_put.py. -/
import Derived.Test.YtggdljhmbckpmaaGreatA16J
set_option linter.unusedVariables false
set_option linter.unusedSimpArgs false
namespace Go.Proofs.YtggdljhmbckpmaaGreat
open Go Go.RowKit
set_option maxRecDepth 100000
set_option maxHeartbeats 800000

theorem put67_w {w0 : World} {α : Type} [Rep α] [Unp α] (hsz : Rep.size α = 5) (hcl : ∀ (x : α) y, (Unp.cs x y).length = 5) (hco : ∀ (x : α) y, ∀ u ∈ Unp.cs x y, u.oneCell' = true) (bw : Nat) (A : Option Addr) (c : Nat) (xs : List α) (f1 : FuncId) (first cap : List Value) [FnOk Tryz.prog f1] (out : α → List UInt8) (Rx : List MP) (hx : xs.length ≤ 9223372036854775807)
    (hone : ∀ x ∈ xs, ∀ y, Unp.ok x y → Wr Tryz.prog w0 (Unp.fs x y ++ Rx) f1 (first ++ [.agg (Unp.cs x y).toArray] ++ cap) bw (out x)) : Wr Tryz.prog w0 (Sl (.slice A xs.length c) xs :: Rx) 69 [.pointer (some ⟨bw, 0, none⟩), .slice A xs.length c, .func (.func f1) first.toArray cap.toArray] bw (dA xs.length ++ xs.flatMap out) := by
  intro H R K KP bs v hsub hb hk hp
  have hm : Sl (.slice A xs.length c) xs ∈ R := hsub _ dB
  have hIx : dO (xs.length : Int) := by simp only [dO]; omega
  rw [List.length_append] at hk hp
  refine dE Tryz.func69 rfl Tryz.ntmps69 fI ?_
  repeat' (first | (apply aF) | (apply aA) | (refine aE rfl rfl ?_; ((first | refine aG ?_ | refine bS rfl ?_)); refine aB ?_))
  refine fV rfl rfl (gH bw xs.length hIx) (fun _ h => (by cases h)) rfl rfl hb (fun hle v2 => ?_) (fun hgt => ?_)
  rotate_left
  · skip
    repeat' ((apply aM))
    exact aR (cN H R (fun w hs => hs) (hp aO))
  refine aB ?_
  repeat' (first | (apply aF) | (apply aA) | (apply aV) | (apply aH) | (apply aD) | (refine aE rfl rfl ?_; ((first | refine aG ?_ | refine bS rfl ?_)); refine aB ?_))
  refine cM [7, 14, 15, 16, 17, 18, 19, 20, 21] (fun m j H2 R2 => ∃ (i : Nat) (bs' : List UInt8) (v' : Value), i + m = xs.length ∧ j 14 = .int .i64 (i : Int) ∧ (∀ p ∈ R, p ∈ R2) ∧ H2 = .row v' 5 1 bs'.length (bC bs') :: .blk bw [v'] 85 :: H ∧ bs'.length ≤ 250000 ∧ bs' ++ (xs.drop i).flatMap out = bs ++ (dA xs.length ++ xs.flatMap out)) xs.length eS ⟨0, bs ++ dA xs.length, v2, by omega, rfl, fun _ h => h, rfl, by rw [List.length_append]; exact hle, by rw [List.append_assoc]; rfl⟩ ?_
  rintro m j' H2 R2 ⟨i, bs', v', him, h14, hR2, hH2, hb', hle2⟩
  subst hH2
  have hm2 := hR2 _ hm
  refine dD (by simp only [eF, List.foldl_cons, List.foldl_nil, List.set_cons_succ, List.set_cons_zero, h14]; rfl) ?_
  have hlen : bs'.length + ((xs.drop i).flatMap out).length = bs.length + ((dA xs.length).length + (xs.flatMap out).length) := by
    have := congrArg List.length hle2
    simpa only [List.length_append] using this
  have HL := Go.Lib.hid hle2
  clear hle2
  repeat' (first | (refine aE rfl rfl ?_; refine dZ rfl rfl hm2 hsz (d := xs[i]) (by simp only [Int.toNat_natCast]; exact List.getElem?_eq_getElem aO) aO (fun b_ o y hy => ?_); refine aB ?_) | (refine aE rfl rfl ?_; refine bD rfl List.mem_cons_self (cU (hcl _ _)) ?_; refine aB ?_) | (refine bJ rfl rfl ?_; refine aN (i := 0) rfl rfl rfl (hcl _ _) cQ (hco _ _) ?_; rw [eI (by rw [hcl]; rfl)]; refine aB ?_; refine cE ?_) | (refine aE rfl rfl ?_; refine aL (i := 0) rfl rfl (cU (hcl _ _)) ?_; refine aB ?_) | (apply aF) | (apply aA) | (apply aV) | (apply bF) | (apply cG) | (apply aK; exact rfl) | (apply aJ; exact rfl) | (apply aH) | (apply aD) | (apply aW) | (apply aS) | (apply aU; exact rfl; ((refine bQ rfl rfl (fun h => ?_) (fun h => ?_))) <;> (refine aB ?_)) | (refine aE rfl rfl ?_; ((refine aG ?_)); refine aB ?_) | (refine bJ rfl rfl ?_; ((refine bL cW (fun b => ?_))); refine aB ?_))
  · have hd : (xs.drop i).flatMap out = out xs[i] ++ (xs.drop (i + 1)).flatMap out := by rw [List.drop_eq_getElem_cons (show i < xs.length by omega), List.flatMap_cons]
    rw [hd, List.length_append] at hlen
    have hsub2 : ∀ p ∈ Unp.fs xs[i] y ++ Rx, p ∈ At b_ o (Unp.cs xs[i] y) :: (Unp.fs xs[i] y ++ R2) := fun p hp => List.mem_cons_of_mem _ (by
      rcases List.mem_append.1 hp with h | h
      · exact List.mem_append_left _ h
      · exact List.mem_append_right _ (hR2 _ (hsub _ (List.mem_cons_of_mem _ h))))
    refine eU (.row v' 5 1 bs'.length (bC bs') :: .blk bw [v'] 85 :: H) _ r4 ?_
    refine pJ rfl rfl rfl (hone xs[i] (List.getElem_mem _) y hy) hsub2 rfl rfl hb' (fun hle v3 => ?_) (fun hgt => ?_)
    · refine aB ?_
      repeat' (first | (apply aA) | (apply aH) | (apply aD) | (apply bU) | (apply aU; exact rfl; ((refine bM rfl rfl aO aO ?_)); refine aB ?_) | (refine aE rfl rfl ?_; ((refine aG ?_)); refine aB ?_))
      refine cJ (m - 1) _ R2 aO eS ⟨i + 1, bs' ++ out xs[i], v3, by omega, rfl, hR2, rfl, by rw [List.length_append]; exact hle, ?_⟩ (fun w hs => hs.weaken eB (fun p hp => List.mem_cons_of_mem _ (List.mem_append_right _ hp)))
      rw [← HL.out, hd, List.append_assoc]
    · skip
      repeat' (first | (apply aM) | (apply cI))
      refine aR (cN H R (fun w hs => hs.weaken eB (fun p hp => List.mem_cons_of_mem _ (List.mem_append_right _ (hR2 p hp)))) (hp aO))
  · have e := HL.out
    rw [List.drop_of_length_le aO, List.flatMap_nil, List.append_nil] at e
    rw [e] at hb' ⊢
    refine aZ (.inr rfl) (gQ rfl) (fG _ R (fun w hs => hs.weaken eB hR2) (hk (by rw [List.length_append, List.length_append] at hb'; exact hb') v'))
theorem put69_w {w0 : World} {α : Type} [Rep α] [Unp α] (hsz : Rep.size α = 7) (hcl : ∀ (x : α) y, (Unp.cs x y).length = 7) (hco : ∀ (x : α) y, ∀ u ∈ Unp.cs x y, u.oneCell' = true) (bw : Nat) (A : Option Addr) (c : Nat) (xs : List α) (f1 : FuncId) (first cap : List Value) [FnOk Tryz.prog f1] (out : α → List UInt8) (Rx : List MP) (hx : xs.length ≤ 9223372036854775807)
    (hone : ∀ x ∈ xs, ∀ y, Unp.ok x y → Wr Tryz.prog w0 (Unp.fs x y ++ Rx) f1 (first ++ [.agg (Unp.cs x y).toArray] ++ cap) bw (out x)) : Wr Tryz.prog w0 (Sl (.slice A xs.length c) xs :: Rx) 71 [.pointer (some ⟨bw, 0, none⟩), .slice A xs.length c, .func (.func f1) first.toArray cap.toArray] bw (dA xs.length ++ xs.flatMap out) := by
  intro H R K KP bs v hsub hb hk hp
  have hm : Sl (.slice A xs.length c) xs ∈ R := hsub _ dB
  have hIx : dO (xs.length : Int) := by simp only [dO]; omega
  rw [List.length_append] at hk hp
  refine dE Tryz.func71 rfl Tryz.ntmps71 fI ?_
  repeat' (first | (apply aF) | (apply aA) | (refine aE rfl rfl ?_; ((first | refine aG ?_ | refine bS rfl ?_)); refine aB ?_))
  refine fV rfl rfl (gH bw xs.length hIx) (fun _ h => (by cases h)) rfl rfl hb (fun hle v2 => ?_) (fun hgt => ?_)
  rotate_left
  · skip
    repeat' ((apply aM))
    exact aR (cN H R (fun w hs => hs) (hp aO))
  refine aB ?_
  repeat' (first | (apply aF) | (apply aA) | (apply aV) | (apply aH) | (apply aD) | (refine aE rfl rfl ?_; ((first | refine aG ?_ | refine bS rfl ?_)); refine aB ?_))
  refine cM [7, 14, 15, 16, 17, 18, 19, 20, 21] (fun m j H2 R2 => ∃ (i : Nat) (bs' : List UInt8) (v' : Value), i + m = xs.length ∧ j 14 = .int .i64 (i : Int) ∧ (∀ p ∈ R, p ∈ R2) ∧ H2 = .row v' 5 1 bs'.length (bC bs') :: .blk bw [v'] 85 :: H ∧ bs'.length ≤ 250000 ∧ bs' ++ (xs.drop i).flatMap out = bs ++ (dA xs.length ++ xs.flatMap out)) xs.length eS ⟨0, bs ++ dA xs.length, v2, by omega, rfl, fun _ h => h, rfl, by rw [List.length_append]; exact hle, by rw [List.append_assoc]; rfl⟩ ?_
  rintro m j' H2 R2 ⟨i, bs', v', him, h14, hR2, hH2, hb', hle2⟩
  subst hH2
  have hm2 := hR2 _ hm
  refine dD (by simp only [eF, List.foldl_cons, List.foldl_nil, List.set_cons_succ, List.set_cons_zero, h14]; rfl) ?_
  have hlen : bs'.length + ((xs.drop i).flatMap out).length = bs.length + ((dA xs.length).length + (xs.flatMap out).length) := by
    have := congrArg List.length hle2
    simpa only [List.length_append] using this
  have HL := Go.Lib.hid hle2
  clear hle2
  repeat' (first | (refine aE rfl rfl ?_; refine dZ rfl rfl hm2 hsz (d := xs[i]) (by simp only [Int.toNat_natCast]; exact List.getElem?_eq_getElem aO) aO (fun b_ o y hy => ?_); refine aB ?_) | (refine aE rfl rfl ?_; refine bD rfl List.mem_cons_self (cU (hcl _ _)) ?_; refine aB ?_) | (refine bJ rfl rfl ?_; refine aN (i := 0) rfl rfl rfl (hcl _ _) cQ (hco _ _) ?_; rw [eI (by rw [hcl]; rfl)]; refine aB ?_; refine cE ?_) | (refine aE rfl rfl ?_; refine aL (i := 0) rfl rfl (cU (hcl _ _)) ?_; refine aB ?_) | (apply aF) | (apply aA) | (apply aV) | (apply bF) | (apply cG) | (apply aK; exact rfl) | (apply aJ; exact rfl) | (apply aH) | (apply aD) | (apply aW) | (apply aS) | (apply aU; exact rfl; ((refine bQ rfl rfl (fun h => ?_) (fun h => ?_))) <;> (refine aB ?_)) | (refine aE rfl rfl ?_; ((refine aG ?_)); refine aB ?_) | (refine bJ rfl rfl ?_; ((refine bL cW (fun b => ?_))); refine aB ?_))
  · have hd : (xs.drop i).flatMap out = out xs[i] ++ (xs.drop (i + 1)).flatMap out := by rw [List.drop_eq_getElem_cons (show i < xs.length by omega), List.flatMap_cons]
    rw [hd, List.length_append] at hlen
    have hsub2 : ∀ p ∈ Unp.fs xs[i] y ++ Rx, p ∈ At b_ o (Unp.cs xs[i] y) :: (Unp.fs xs[i] y ++ R2) := fun p hp => List.mem_cons_of_mem _ (by
      rcases List.mem_append.1 hp with h | h
      · exact List.mem_append_left _ h
      · exact List.mem_append_right _ (hR2 _ (hsub _ (List.mem_cons_of_mem _ h))))
    refine eU (.row v' 5 1 bs'.length (bC bs') :: .blk bw [v'] 85 :: H) _ r4 ?_
    refine pJ rfl rfl rfl (hone xs[i] (List.getElem_mem _) y hy) hsub2 rfl rfl hb' (fun hle v3 => ?_) (fun hgt => ?_)
    · refine aB ?_
      repeat' (first | (apply aA) | (apply aH) | (apply aD) | (apply bU) | (apply aU; exact rfl; ((refine bM rfl rfl aO aO ?_)); refine aB ?_) | (refine aE rfl rfl ?_; ((refine aG ?_)); refine aB ?_))
      refine cJ (m - 1) _ R2 aO eS ⟨i + 1, bs' ++ out xs[i], v3, by omega, rfl, hR2, rfl, by rw [List.length_append]; exact hle, ?_⟩ (fun w hs => hs.weaken eB (fun p hp => List.mem_cons_of_mem _ (List.mem_append_right _ hp)))
      rw [← HL.out, hd, List.append_assoc]
    · skip
      repeat' (first | (apply aM) | (apply cI))
      refine aR (cN H R (fun w hs => hs.weaken eB (fun p hp => List.mem_cons_of_mem _ (List.mem_append_right _ (hR2 p hp)))) (hp aO))
  · have e := HL.out
    rw [List.drop_of_length_le aO, List.flatMap_nil, List.append_nil] at e
    rw [e] at hb' ⊢
    refine aZ (.inr rfl) (gQ rfl) (fG _ R (fun w hs => hs.weaken eB hR2) (hk (by rw [List.length_append, List.length_append] at hb'; exact hb') v'))
theorem put71_w {w0 : World} {α : Type} [Rep α] [Unp α] (hsz : Rep.size α = 7) (hcl : ∀ (x : α) y, (Unp.cs x y).length = 7) (hco : ∀ (x : α) y, ∀ u ∈ Unp.cs x y, u.oneCell' = true) (bw : Nat) (A : Option Addr) (c : Nat) (xs : List α) (f1 : FuncId) (first cap : List Value) [FnOk Tryz.prog f1] (out : α → List UInt8) (Rx : List MP) (hx : xs.length ≤ 9223372036854775807)
    (hone : ∀ x ∈ xs, ∀ y, Unp.ok x y → Wr Tryz.prog w0 (Unp.fs x y ++ Rx) f1 (first ++ [.agg (Unp.cs x y).toArray] ++ cap) bw (out x)) : Wr Tryz.prog w0 (Sl (.slice A xs.length c) xs :: Rx) 73 [.pointer (some ⟨bw, 0, none⟩), .slice A xs.length c, .func (.func f1) first.toArray cap.toArray] bw (dA xs.length ++ xs.flatMap out) := by
  intro H R K KP bs v hsub hb hk hp
  have hm : Sl (.slice A xs.length c) xs ∈ R := hsub _ dB
  have hIx : dO (xs.length : Int) := by simp only [dO]; omega
  rw [List.length_append] at hk hp
  refine dE Tryz.func73 rfl Tryz.ntmps73 fI ?_
  repeat' (first | (apply aF) | (apply aA) | (refine aE rfl rfl ?_; ((first | refine aG ?_ | refine bS rfl ?_)); refine aB ?_))
  refine fV rfl rfl (gH bw xs.length hIx) (fun _ h => (by cases h)) rfl rfl hb (fun hle v2 => ?_) (fun hgt => ?_)
  rotate_left
  · skip
    repeat' ((apply aM))
    exact aR (cN H R (fun w hs => hs) (hp aO))
  refine aB ?_
  repeat' (first | (apply aF) | (apply aA) | (apply aV) | (apply aH) | (apply aD) | (refine aE rfl rfl ?_; ((first | refine aG ?_ | refine bS rfl ?_)); refine aB ?_))
  refine cM [7, 14, 15, 16, 17, 18, 19, 20, 21] (fun m j H2 R2 => ∃ (i : Nat) (bs' : List UInt8) (v' : Value), i + m = xs.length ∧ j 14 = .int .i64 (i : Int) ∧ (∀ p ∈ R, p ∈ R2) ∧ H2 = .row v' 5 1 bs'.length (bC bs') :: .blk bw [v'] 85 :: H ∧ bs'.length ≤ 250000 ∧ bs' ++ (xs.drop i).flatMap out = bs ++ (dA xs.length ++ xs.flatMap out)) xs.length eS ⟨0, bs ++ dA xs.length, v2, by omega, rfl, fun _ h => h, rfl, by rw [List.length_append]; exact hle, by rw [List.append_assoc]; rfl⟩ ?_
  rintro m j' H2 R2 ⟨i, bs', v', him, h14, hR2, hH2, hb', hle2⟩
  subst hH2
  have hm2 := hR2 _ hm
  refine dD (by simp only [eF, List.foldl_cons, List.foldl_nil, List.set_cons_succ, List.set_cons_zero, h14]; rfl) ?_
  have hlen : bs'.length + ((xs.drop i).flatMap out).length = bs.length + ((dA xs.length).length + (xs.flatMap out).length) := by
    have := congrArg List.length hle2
    simpa only [List.length_append] using this
  have HL := Go.Lib.hid hle2
  clear hle2
  repeat' (first | (refine aE rfl rfl ?_; refine dZ rfl rfl hm2 hsz (d := xs[i]) (by simp only [Int.toNat_natCast]; exact List.getElem?_eq_getElem aO) aO (fun b_ o y hy => ?_); refine aB ?_) | (refine aE rfl rfl ?_; refine bD rfl List.mem_cons_self (cU (hcl _ _)) ?_; refine aB ?_) | (refine bJ rfl rfl ?_; refine aN (i := 0) rfl rfl rfl (hcl _ _) cQ (hco _ _) ?_; rw [eI (by rw [hcl]; rfl)]; refine aB ?_; refine cE ?_) | (refine aE rfl rfl ?_; refine aL (i := 0) rfl rfl (cU (hcl _ _)) ?_; refine aB ?_) | (apply aF) | (apply aA) | (apply aV) | (apply bF) | (apply cG) | (apply aK; exact rfl) | (apply aJ; exact rfl) | (apply aH) | (apply aD) | (apply aW) | (apply aS) | (apply aU; exact rfl; ((refine bQ rfl rfl (fun h => ?_) (fun h => ?_))) <;> (refine aB ?_)) | (refine aE rfl rfl ?_; ((refine aG ?_)); refine aB ?_) | (refine bJ rfl rfl ?_; ((refine bL cW (fun b => ?_))); refine aB ?_))
  · have hd : (xs.drop i).flatMap out = out xs[i] ++ (xs.drop (i + 1)).flatMap out := by rw [List.drop_eq_getElem_cons (show i < xs.length by omega), List.flatMap_cons]
    rw [hd, List.length_append] at hlen
    have hsub2 : ∀ p ∈ Unp.fs xs[i] y ++ Rx, p ∈ At b_ o (Unp.cs xs[i] y) :: (Unp.fs xs[i] y ++ R2) := fun p hp => List.mem_cons_of_mem _ (by
      rcases List.mem_append.1 hp with h | h
      · exact List.mem_append_left _ h
      · exact List.mem_append_right _ (hR2 _ (hsub _ (List.mem_cons_of_mem _ h))))
    refine eU (.row v' 5 1 bs'.length (bC bs') :: .blk bw [v'] 85 :: H) _ r4 ?_
    refine pJ rfl rfl rfl (hone xs[i] (List.getElem_mem _) y hy) hsub2 rfl rfl hb' (fun hle v3 => ?_) (fun hgt => ?_)
    · refine aB ?_
      repeat' (first | (apply aA) | (apply aH) | (apply aD) | (apply bU) | (apply aU; exact rfl; ((refine bM rfl rfl aO aO ?_)); refine aB ?_) | (refine aE rfl rfl ?_; ((refine aG ?_)); refine aB ?_))
      refine cJ (m - 1) _ R2 aO eS ⟨i + 1, bs' ++ out xs[i], v3, by omega, rfl, hR2, rfl, by rw [List.length_append]; exact hle, ?_⟩ (fun w hs => hs.weaken eB (fun p hp => List.mem_cons_of_mem _ (List.mem_append_right _ hp)))
      rw [← HL.out, hd, List.append_assoc]
    · skip
      repeat' (first | (apply aM) | (apply cI))
      refine aR (cN H R (fun w hs => hs.weaken eB (fun p hp => List.mem_cons_of_mem _ (List.mem_append_right _ (hR2 p hp)))) (hp aO))
  · have e := HL.out
    rw [List.drop_of_length_le aO, List.flatMap_nil, List.append_nil] at e
    rw [e] at hb' ⊢
    refine aZ (.inr rfl) (gQ rfl) (fG _ R (fun w hs => hs.weaken eB hR2) (hk (by rw [List.length_append, List.length_append] at hb'; exact hb') v'))
theorem put73_w {w0 : World} {α : Type} [Rep α] [Unp α] (hsz : Rep.size α = 8) (hcl : ∀ (x : α) y, (Unp.cs x y).length = 8) (hco : ∀ (x : α) y, ∀ u ∈ Unp.cs x y, u.oneCell' = true) (bw : Nat) (A : Option Addr) (c : Nat) (xs : List α) (f1 : FuncId) (first cap : List Value) [FnOk Tryz.prog f1] (out : α → List UInt8) (Rx : List MP) (hx : xs.length ≤ 9223372036854775807)
    (hone : ∀ x ∈ xs, ∀ y, Unp.ok x y → Wr Tryz.prog w0 (Unp.fs x y ++ Rx) f1 (first ++ [.agg (Unp.cs x y).toArray] ++ cap) bw (out x)) : Wr Tryz.prog w0 (Sl (.slice A xs.length c) xs :: Rx) 75 [.pointer (some ⟨bw, 0, none⟩), .slice A xs.length c, .func (.func f1) first.toArray cap.toArray] bw (dA xs.length ++ xs.flatMap out) := by
  intro H R K KP bs v hsub hb hk hp
  have hm : Sl (.slice A xs.length c) xs ∈ R := hsub _ dB
  have hIx : dO (xs.length : Int) := by simp only [dO]; omega
  rw [List.length_append] at hk hp
  refine dE Tryz.func75 rfl Tryz.ntmps75 fI ?_
  repeat' (first | (apply aF) | (apply aA) | (refine aE rfl rfl ?_; ((first | refine aG ?_ | refine bS rfl ?_)); refine aB ?_))
  refine fV rfl rfl (gH bw xs.length hIx) (fun _ h => (by cases h)) rfl rfl hb (fun hle v2 => ?_) (fun hgt => ?_)
  rotate_left
  · skip
    repeat' ((apply aM))
    exact aR (cN H R (fun w hs => hs) (hp aO))
  refine aB ?_
  repeat' (first | (apply aF) | (apply aA) | (apply aV) | (apply aH) | (apply aD) | (refine aE rfl rfl ?_; ((first | refine aG ?_ | refine bS rfl ?_)); refine aB ?_))
  refine cM [7, 14, 15, 16, 17, 18, 19, 20, 21] (fun m j H2 R2 => ∃ (i : Nat) (bs' : List UInt8) (v' : Value), i + m = xs.length ∧ j 14 = .int .i64 (i : Int) ∧ (∀ p ∈ R, p ∈ R2) ∧ H2 = .row v' 5 1 bs'.length (bC bs') :: .blk bw [v'] 85 :: H ∧ bs'.length ≤ 250000 ∧ bs' ++ (xs.drop i).flatMap out = bs ++ (dA xs.length ++ xs.flatMap out)) xs.length eS ⟨0, bs ++ dA xs.length, v2, by omega, rfl, fun _ h => h, rfl, by rw [List.length_append]; exact hle, by rw [List.append_assoc]; rfl⟩ ?_
  rintro m j' H2 R2 ⟨i, bs', v', him, h14, hR2, hH2, hb', hle2⟩
  subst hH2
  have hm2 := hR2 _ hm
  refine dD (by simp only [eF, List.foldl_cons, List.foldl_nil, List.set_cons_succ, List.set_cons_zero, h14]; rfl) ?_
  have hlen : bs'.length + ((xs.drop i).flatMap out).length = bs.length + ((dA xs.length).length + (xs.flatMap out).length) := by
    have := congrArg List.length hle2
    simpa only [List.length_append] using this
  have HL := Go.Lib.hid hle2
  clear hle2
  repeat' (first | (refine aE rfl rfl ?_; refine dZ rfl rfl hm2 hsz (d := xs[i]) (by simp only [Int.toNat_natCast]; exact List.getElem?_eq_getElem aO) aO (fun b_ o y hy => ?_); refine aB ?_) | (refine aE rfl rfl ?_; refine bD rfl List.mem_cons_self (cU (hcl _ _)) ?_; refine aB ?_) | (refine bJ rfl rfl ?_; refine aN (i := 0) rfl rfl rfl (hcl _ _) cQ (hco _ _) ?_; rw [eI (by rw [hcl]; rfl)]; refine aB ?_; refine cE ?_) | (refine aE rfl rfl ?_; refine aL (i := 0) rfl rfl (cU (hcl _ _)) ?_; refine aB ?_) | (apply aF) | (apply aA) | (apply aV) | (apply bF) | (apply cG) | (apply aK; exact rfl) | (apply aJ; exact rfl) | (apply aH) | (apply aD) | (apply aW) | (apply aS) | (apply aU; exact rfl; ((refine bQ rfl rfl (fun h => ?_) (fun h => ?_))) <;> (refine aB ?_)) | (refine aE rfl rfl ?_; ((refine aG ?_)); refine aB ?_) | (refine bJ rfl rfl ?_; ((refine bL cW (fun b => ?_))); refine aB ?_))
  · have hd : (xs.drop i).flatMap out = out xs[i] ++ (xs.drop (i + 1)).flatMap out := by rw [List.drop_eq_getElem_cons (show i < xs.length by omega), List.flatMap_cons]
    rw [hd, List.length_append] at hlen
    have hsub2 : ∀ p ∈ Unp.fs xs[i] y ++ Rx, p ∈ At b_ o (Unp.cs xs[i] y) :: (Unp.fs xs[i] y ++ R2) := fun p hp => List.mem_cons_of_mem _ (by
      rcases List.mem_append.1 hp with h | h
      · exact List.mem_append_left _ h
      · exact List.mem_append_right _ (hR2 _ (hsub _ (List.mem_cons_of_mem _ h))))
    refine eU (.row v' 5 1 bs'.length (bC bs') :: .blk bw [v'] 85 :: H) _ r4 ?_
    refine pJ rfl rfl rfl (hone xs[i] (List.getElem_mem _) y hy) hsub2 rfl rfl hb' (fun hle v3 => ?_) (fun hgt => ?_)
    · refine aB ?_
      repeat' (first | (apply aA) | (apply aH) | (apply aD) | (apply bU) | (apply aU; exact rfl; ((refine bM rfl rfl aO aO ?_)); refine aB ?_) | (refine aE rfl rfl ?_; ((refine aG ?_)); refine aB ?_))
      refine cJ (m - 1) _ R2 aO eS ⟨i + 1, bs' ++ out xs[i], v3, by omega, rfl, hR2, rfl, by rw [List.length_append]; exact hle, ?_⟩ (fun w hs => hs.weaken eB (fun p hp => List.mem_cons_of_mem _ (List.mem_append_right _ hp)))
      rw [← HL.out, hd, List.append_assoc]
    · skip
      repeat' (first | (apply aM) | (apply cI))
      refine aR (cN H R (fun w hs => hs.weaken eB (fun p hp => List.mem_cons_of_mem _ (List.mem_append_right _ (hR2 p hp)))) (hp aO))
  · have e := HL.out
    rw [List.drop_of_length_le aO, List.flatMap_nil, List.append_nil] at e
    rw [e] at hb' ⊢
    refine aZ (.inr rfl) (gQ rfl) (fG _ R (fun w hs => hs.weaken eB hR2) (hk (by rw [List.length_append, List.length_append] at hb'; exact hb') v'))
theorem put75_w {w0 : World} {α : Type} [Rep α] [Unp α] (hsz : Rep.size α = 9) (hcl : ∀ (x : α) y, (Unp.cs x y).length = 9) (hco : ∀ (x : α) y, ∀ u ∈ Unp.cs x y, u.oneCell' = true) (bw : Nat) (A : Option Addr) (c : Nat) (xs : List α) (f1 : FuncId) (first cap : List Value) [FnOk Tryz.prog f1] (out : α → List UInt8) (Rx : List MP) (hx : xs.length ≤ 9223372036854775807)
    (hone : ∀ x ∈ xs, ∀ y, Unp.ok x y → Wr Tryz.prog w0 (Unp.fs x y ++ Rx) f1 (first ++ [.agg (Unp.cs x y).toArray] ++ cap) bw (out x)) : Wr Tryz.prog w0 (Sl (.slice A xs.length c) xs :: Rx) 77 [.pointer (some ⟨bw, 0, none⟩), .slice A xs.length c, .func (.func f1) first.toArray cap.toArray] bw (dA xs.length ++ xs.flatMap out) := by
  intro H R K KP bs v hsub hb hk hp
  have hm : Sl (.slice A xs.length c) xs ∈ R := hsub _ dB
  have hIx : dO (xs.length : Int) := by simp only [dO]; omega
  rw [List.length_append] at hk hp
  refine dE Tryz.func77 rfl Tryz.ntmps77 fI ?_
  repeat' (first | (apply aF) | (apply aA) | (refine aE rfl rfl ?_; ((first | refine aG ?_ | refine bS rfl ?_)); refine aB ?_))
  refine fV rfl rfl (gH bw xs.length hIx) (fun _ h => (by cases h)) rfl rfl hb (fun hle v2 => ?_) (fun hgt => ?_)
  rotate_left
  · skip
    repeat' ((apply aM))
    exact aR (cN H R (fun w hs => hs) (hp aO))
  refine aB ?_
  repeat' (first | (apply aF) | (apply aA) | (apply aV) | (apply aH) | (apply aD) | (refine aE rfl rfl ?_; ((first | refine aG ?_ | refine bS rfl ?_)); refine aB ?_))
  refine cM [7, 14, 15, 16, 17, 18, 19, 20, 21] (fun m j H2 R2 => ∃ (i : Nat) (bs' : List UInt8) (v' : Value), i + m = xs.length ∧ j 14 = .int .i64 (i : Int) ∧ (∀ p ∈ R, p ∈ R2) ∧ H2 = .row v' 5 1 bs'.length (bC bs') :: .blk bw [v'] 85 :: H ∧ bs'.length ≤ 250000 ∧ bs' ++ (xs.drop i).flatMap out = bs ++ (dA xs.length ++ xs.flatMap out)) xs.length eS ⟨0, bs ++ dA xs.length, v2, by omega, rfl, fun _ h => h, rfl, by rw [List.length_append]; exact hle, by rw [List.append_assoc]; rfl⟩ ?_
  rintro m j' H2 R2 ⟨i, bs', v', him, h14, hR2, hH2, hb', hle2⟩
  subst hH2
  have hm2 := hR2 _ hm
  refine dD (by simp only [eF, List.foldl_cons, List.foldl_nil, List.set_cons_succ, List.set_cons_zero, h14]; rfl) ?_
  have hlen : bs'.length + ((xs.drop i).flatMap out).length = bs.length + ((dA xs.length).length + (xs.flatMap out).length) := by
    have := congrArg List.length hle2
    simpa only [List.length_append] using this
  have HL := Go.Lib.hid hle2
  clear hle2
  repeat' (first | (refine aE rfl rfl ?_; refine dZ rfl rfl hm2 hsz (d := xs[i]) (by simp only [Int.toNat_natCast]; exact List.getElem?_eq_getElem aO) aO (fun b_ o y hy => ?_); refine aB ?_) | (refine aE rfl rfl ?_; refine bD rfl List.mem_cons_self (cU (hcl _ _)) ?_; refine aB ?_) | (refine bJ rfl rfl ?_; refine aN (i := 0) rfl rfl rfl (hcl _ _) cQ (hco _ _) ?_; rw [eI (by rw [hcl]; rfl)]; refine aB ?_; refine cE ?_) | (refine aE rfl rfl ?_; refine aL (i := 0) rfl rfl (cU (hcl _ _)) ?_; refine aB ?_) | (apply aF) | (apply aA) | (apply aV) | (apply bF) | (apply cG) | (apply aK; exact rfl) | (apply aJ; exact rfl) | (apply aH) | (apply aD) | (apply aW) | (apply aS) | (apply aU; exact rfl; ((refine bQ rfl rfl (fun h => ?_) (fun h => ?_))) <;> (refine aB ?_)) | (refine aE rfl rfl ?_; ((refine aG ?_)); refine aB ?_) | (refine bJ rfl rfl ?_; ((refine bL cW (fun b => ?_))); refine aB ?_))
  · have hd : (xs.drop i).flatMap out = out xs[i] ++ (xs.drop (i + 1)).flatMap out := by rw [List.drop_eq_getElem_cons (show i < xs.length by omega), List.flatMap_cons]
    rw [hd, List.length_append] at hlen
    have hsub2 : ∀ p ∈ Unp.fs xs[i] y ++ Rx, p ∈ At b_ o (Unp.cs xs[i] y) :: (Unp.fs xs[i] y ++ R2) := fun p hp => List.mem_cons_of_mem _ (by
      rcases List.mem_append.1 hp with h | h
      · exact List.mem_append_left _ h
      · exact List.mem_append_right _ (hR2 _ (hsub _ (List.mem_cons_of_mem _ h))))
    refine eU (.row v' 5 1 bs'.length (bC bs') :: .blk bw [v'] 85 :: H) _ r4 ?_
    refine pJ rfl rfl rfl (hone xs[i] (List.getElem_mem _) y hy) hsub2 rfl rfl hb' (fun hle v3 => ?_) (fun hgt => ?_)
    · refine aB ?_
      repeat' (first | (apply aA) | (apply aH) | (apply aD) | (apply bU) | (apply aU; exact rfl; ((refine bM rfl rfl aO aO ?_)); refine aB ?_) | (refine aE rfl rfl ?_; ((refine aG ?_)); refine aB ?_))
      refine cJ (m - 1) _ R2 aO eS ⟨i + 1, bs' ++ out xs[i], v3, by omega, rfl, hR2, rfl, by rw [List.length_append]; exact hle, ?_⟩ (fun w hs => hs.weaken eB (fun p hp => List.mem_cons_of_mem _ (List.mem_append_right _ hp)))
      rw [← HL.out, hd, List.append_assoc]
    · skip
      repeat' (first | (apply aM) | (apply cI))
      refine aR (cN H R (fun w hs => hs.weaken eB (fun p hp => List.mem_cons_of_mem _ (List.mem_append_right _ (hR2 p hp)))) (hp aO))
  · have e := HL.out
    rw [List.drop_of_length_le aO, List.flatMap_nil, List.append_nil] at e
    rw [e] at hb' ⊢
    refine aZ (.inr rfl) (gQ rfl) (fG _ R (fun w hs => hs.weaken eB hR2) (hk (by rw [List.length_append, List.length_append] at hb'; exact hb') v'))
end Go.Proofs.YtggdljhmbckpmaaGreat
